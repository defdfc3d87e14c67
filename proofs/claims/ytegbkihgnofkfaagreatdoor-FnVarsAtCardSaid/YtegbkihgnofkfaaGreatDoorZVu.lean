/-
Texts Vu to Vv of the work.
-/
import Derived.Test.YtegbkihgnofkfaaGreatDoorZVt
/-
Code: the implementation's variables of a loop.
-/
namespace Go.Proofs.YtegbkihgnofkfaaGreatDoor.Ev
section
set_option linter.unusedVariables false
set_option linter.unusedSimpArgs false
open Go Go.RowKit
set_option linter.unusedVariables false
set_option linter.unusedSimpArgs false
/-- Is it a variable? -/
def varP (x : List UInt8) : Bool := match x with
  | [c] => isVar c
  | _ => false
theorem varP_ev (l : List UInt8) : EE 33 [S l] = some (B (varP l)) := varOk_ev l
theorem lsI_get : ∀ (L : List (List UInt8)) (v : Int) (i : Nat) (x : List UInt8) (r : List (List UInt8)), L.drop i = x :: r → ((lsI v L).drop i).head? = some (if endM x = true then v + sumL (L.take i) - 1 else v + sumL (L.take i))
  | [], v, i, x, r, h => by simp at h
  | y :: L, v, 0, x, r, h => by
    simp only [List.drop_zero, List.cons.injEq] at h
    obtain ⟨rfl, rfl⟩ := h
    simp [lsI, sumL]
  | y :: L, v, i + 1, x, r, h => by
    simp only [List.drop_succ_cons] at h
    have := lsI_get L (v + dL y) i x r h
    simp only [lsI, List.drop_succ_cons, List.take_succ_cons, sumL_cons]
    rw [this]
    congr 1
    split <;> omega
theorem lsI_len : ∀ (L : List (List UInt8)) (v : Int), (lsI v L).length = L.length
  | [], v => rfl
  | x :: L, v => by simp [lsI, lsI_len L]
theorem sum_take {L : List (List UInt8)} {i : Nat} {x : List UInt8} {r : List (List UInt8)} (h : L.drop i = x :: r) : sumL (L.take (i + 1)) = sumL (L.take i) + dL x := by
  obtain ⟨hi, hx, _⟩ := strs_drop_head h
  rw [List.take_add_one, hx, sumL_append]
  simp [sumL]
theorem T_varsAt : TT 17 = some (Tryz.f17, bodyOf Tryz.f17) := by kernel_rfl
theorem varsAt_loop (x : Bool) (L : List (List UInt8)) (hL : L.length < 100000000) (kl a : Nat) (lev : Int) (hlev : ((lsI 0 L).drop a).head? = some lev) (ha : a < L.length) : ∀ (r : List (List UInt8)) (i n : Nat) (d : Int) (M : List (List UInt8)) (e : Nat → AV) (σ : Sto) (nx : Nat) (q : Option (Ex × St)),
    L.drop i = r → i ≤ L.length → r.length < n → 1 ≤ d → sumL (L.take i) = lev + d → clo d r < r.length → M.length ≤ i → roundsE (evC II EE (withOpt [] pf) MX (bodyL Tryz.f17 0)) n ⟨e, σ, nx⟩ = q →
    e 0 = .s x L.length (strs L) → e 1 = N a → e 5 = .w kl 0 L.length → σ kl = some (.row 3 1 L.length (ints (lsI 0 L))) → kl < nx → e 7 = N i → Lst σ nx 9 1 (e 6) M.length (strs M) → kl ∉ own (e 6) →
    ∃ e' σ' nx', q = some (.exit 0, ⟨e', σ', nx'⟩) ∧ Lst σ' nx' 9 1 (e' 6) (M ++ (r.take (clo d r)).filter varP).length (strs (M ++ (r.take (clo d r)).filter varP)) := by
  intro r
  induction r with
  | nil => intro i n d M e σ nx q hd hiL hn hd1 hs hcl; simp at hcl
  | cons z r ih =>
    intro i n d M e σ nx q hd hiL hn hd1 hs hcl hM hq h0 h1 h5 hσ hkl h7 h6 hown
    obtain ⟨hi, hx, hd'⟩ := strs_drop_head hd
    obtain ⟨k, rfl⟩ : ∃ k, n = k + 1 := ⟨n - 1, by omega⟩
    rw [rounds_rd] at hq
    have hc : ((i : Int) < (L.length : Int)) := by omega
    have hz : (0 : Int) ≤ (i : Int) := by omega
    have hca : ((a : Int) < (L.length : Int)) := by omega
    have hza : (0 : Int) ≤ (a : Int) := by omega
    have hw : IntKind.i64.wrap ((i : Int) + 1) = ((i + 1 : Nat) : Int) := by rw [wrap64 (by omega) (by omega)]; rfl
    have hhd : ((strs L).drop i).head? = some (S z) := by rw [strs_drop, hd]; rfl
    have hg := lsI_get L 0 i z r hd
    rw [hs] at hg
    generalize hlz : (if endM z = true then 0 + (lev + d) - 1 else 0 + (lev + d)) = lz at hg
    have hhl : ((ints (lsI 0 L)).drop i).head? = some (N lz) := by rw [ints_drop, ints_head, hg]; rfl
    have hha : ((ints (lsI 0 L)).drop a).head? = some (N lev) := by rw [ints_drop, ints_head, hlev]; rfl
    simp only [bodyL, bodyOf, Tryz.f17, SA, loops, List.nil_append, List.append_nil, List.cons_append, List.getD_cons_zero, List.getD_cons_succ] at hq
    by_cases hstop : endM z = true ∧ d = 1
    · have hcl0 : clo d (z :: r) = 0 := by rw [clo, if_pos hstop]
      have hcmp : ¬ (lev < lz) := by rw [if_pos hstop.1] at hlz; omega
      simp only [h0, h1, h5, h7, hσ, hc, hz, hca, hza, hhl, hha, hcmp, Int.toNat_natCast, Nat.mul_one, Nat.zero_add, RR, IA, PA, RA0, RA1, RA2, RA3, RA4, RA5, RA6, RA7, RA8, RA9, RA10, Nat.reduceAdd, Nat.reduceMul, Nat.reduceEqDiff, Nat.reduceLeDiff, Nat.reduceLT, Int.reduceToNat, Int.reduceLT, Int.reduceLE, Int.reduceEq, Int.reduceNeg, Int.reduceAdd, Int.reduceSub, Int.reduceMul, reduceIte] at hq
      rw [hcl0, List.take_zero]
      simp only [List.filter_nil, List.append_nil]
      exact ⟨_, _, _, hq.symm, lst_mono h6 (by omega)⟩
    · have hclE : clo d (z :: r) = 1 + clo (d + dL z) r := by rw [clo, if_neg hstop]
      have hcmp : (lev < lz) := by
        by_cases he : endM z = true
        · rw [if_pos he] at hlz
          have : d ≠ 1 := fun e => hstop ⟨he, e⟩
          omega
        · rw [if_neg he] at hlz
          omega
      have hdd : 1 ≤ d + dL z := by
        by_cases he : endM z = true
        · have := dL_end he
          have : d ≠ 1 := fun e => hstop ⟨he, e⟩
          omega
        · have : 0 ≤ dL z := by
            unfold dL
            split
            · omega
            · simp [he]
          omega
      have hs' : sumL (L.take (i + 1)) = lev + (d + dL z) := by rw [sum_take hd, hs]; omega
      rw [hclE] at hcl ⊢
      simp only [List.length_cons] at hcl
      have hvo := varP_ev z
      rw [show 1 + clo (d + dL z) r = clo (d + dL z) r + 1 by omega, List.take_succ_cons]
      cases hv : varP z
      · rw [hv] at hvo
        simp only [h0, h1, h5, h7, hσ, hc, hz, hca, hza, hw, hhl, hha, hcmp, hhd, hvo, Int.toNat_natCast, Nat.mul_one, Nat.zero_add, RR, IA, PA, RA0, RA1, RA2, RA3, RA4, RA5, RA6, RA7, RA8, RA9, RA10, Nat.reduceAdd, Nat.reduceMul, Nat.reduceEqDiff, Nat.reduceLeDiff, Nat.reduceLT, Int.reduceToNat, Int.reduceLT, Int.reduceLE, Int.reduceEq, Int.reduceNeg, Int.reduceAdd, Int.reduceSub, Int.reduceMul, reduceIte] at hq
        obtain ⟨e', σ', nx', g1, g2⟩ := ih (i + 1) k (d + dL z) M _ σ _ q hd' (by omega) (by simpa using hn) hdd hs' (by omega) (by omega) hq h0 h1 h5 hσ (by omega) rfl (lst_mono h6 (by omega)) hown
        rw [List.filter_cons_of_neg (by simp [hv])]
        exact ⟨e', σ', nx', g1, g2⟩
      · rw [hv] at hvo
        simp only [h0, h1, h5, h7, hσ, hc, hz, hca, hza, hw, hhl, hha, hcmp, hhd, hvo, Int.toNat_natCast, Nat.mul_one, Nat.zero_add, RR, IA, PA, RA0, RA1, RA2, RA3, RA4, RA5, RA6, RA7, RA8, RA9, RA10, Nat.reduceAdd, Nat.reduceMul, Nat.reduceEqDiff, Nat.reduceLeDiff, Nat.reduceLT, Int.reduceToNat, Int.reduceLT, Int.reduceLE, Int.reduceEq, Int.reduceNeg, Int.reduceAdd, Int.reduceSub, Int.reduceMul, reduceIte] at hq
        rw [lst_app h6 (by decide) (by rfl) (by rfl) (by decide) (by omega) (by omega) (by omega)] at hq
        generalize hτ : appSto _ _ _ _ (e 6) _ _ = τ at hq
        have t1 := (congrFun hτ _).symm.trans (appSto_key ..)
        have t2 : ∀ j, j ≠ _ → j ∉ own (e 6) → τ j = σ j := fun j h1 h2 => (congrFun hτ j).symm.trans (own_other h1 h2)
        clear hτ
        simp only [h7, hw, RR, IA, PA, RA0, RA1, RA2, RA3, RA4, RA5, RA6, RA7, RA8, RA9, RA10, Nat.reduceAdd, Nat.reduceMul, Nat.reduceEqDiff, Nat.reduceLeDiff, Nat.reduceLT, Int.reduceToNat, Int.reduceLT, Int.reduceLE, Int.reduceEq, Int.reduceNeg, Int.reduceAdd, Int.reduceSub, Int.reduceMul, reduceIte] at hq
        have key := fun p1 p2 p3 p4 => ih (i + 1) k (d + dL z) (M ++ [z]) _ τ _ q hd' (by omega) (by simpa using hn) hdd hs' (by omega) (by simp; omega) hq h0 h1 h5 p1 p2 rfl p3 p4
        obtain ⟨e', σ', nx', g1, g2⟩ := key (by rw [t2 kl (by omega) hown, hσ]) (by omega) (by
          have e1 : strs (M ++ [z]) = strs M ++ [S z] := by simp [strs]
          rw [e1, List.length_append, List.length_cons, List.length_nil]
          exact .inr ⟨_, by omega, rfl, t1, by simp [strs_len]⟩) (by
          show kl ∉ [_]
          simp only [List.mem_singleton]
          omega)
        rw [List.filter_cons_of_pos (by simp [hv])]
        refine ⟨e', σ', nx', g1, ?_⟩
        simpa only [List.append_assoc, List.cons_append, List.nil_append] using g2
end
end Go.Proofs.YtegbkihgnofkfaaGreatDoor.Ev

/-
Code: the implementation's VarsAt.
-/
namespace Go.Proofs.YtegbkihgnofkfaaGreatDoor.Ev
section
set_option linter.unusedVariables false
set_option linter.unusedSimpArgs false
open Go Go.RowKit
set_option linter.unusedVariables false
set_option linter.unusedSimpArgs false
section
variable {C : Sem1} {pf : FuncId → Nat} {σ : Sto} {key : Nat}
theorem call_row_t {f : FuncId} {id n E sz : Nat} {cs cs' : List AV} (hp : pf f = 2) (hσ : σ id = some (.row E sz n cs)) (hc : closedL cs = true) (hr : C f [lentR n E sz cs] = some (.t [.t [], .t [lentR n E sz cs']])) :
    callOp C pf σ key f [.w id 0 n] = some (.t [], upd σ id (some (.row E sz n cs'))) := by
  rw [call2_eq hp]
  have h1 : needs σ [.w id 0 n] = [] := by
    simp only [needs, need, hσ, deepL_closed 8 hc, List.append_nil]
  have h2 : deepC (pack1 σ) [.w id 0 n] = some ([lentR n E sz cs], [id]) := by
    simp only [deepC, pack1, hσ, deepL_closed 8 hc, Option.map_some, Option.bind_some, if_true, List.append_nil]
  rw [h1]
  simp only [frz0, h2, Option.bind_some, lend1]
  rw [if_pos (by simp), hr]
  have h3 : upd (killL σ [id]) id (some (.row E sz n cs')) = upd σ id (some (.row E sz n cs')) := by
    funext i
    unfold upd killL
    by_cases e : i = id <;> simp [e]
  simp only [Option.bind_some, lend2, h1, frz0, back, lentR, h3]
  rw [if_pos (by simp [room, closedL])]
  rfl
theorem call_row_gone {f : FuncId} {id n E sz E' sz' m : Nat} {cs ds : List AV} (hp : pf f = 2) (hσ : σ id = some (.row E sz n cs)) (hc : closedL cs = true) (hd : closedL ds = true) (hr : C f [lentR n E sz cs] = some (.t [.o E' sz' m ds, .t [.t []]])) :
    callOp C pf σ key f [.w id 0 n] = some (.w key 0 m, upd (killL σ [id]) key (some (.row E' sz' m ds))) := by
  rw [call2_eq hp]
  have h1 : needs σ [.w id 0 n] = [] := by
    simp only [needs, need, hσ, deepL_closed 8 hc, List.append_nil]
  have h2 : deepC (pack1 σ) [.w id 0 n] = some ([lentR n E sz cs], [id]) := by
    simp only [deepC, pack1, hσ, deepL_closed 8 hc, Option.map_some, Option.bind_some, if_true, List.append_nil]
  rw [h1]
  simp only [frz0, h2, Option.bind_some, lend1]
  rw [if_pos (by simp), hr]
  simp only [Option.bind_some, lend2, h1, frz0, back]
  rw [if_pos (by simp [room])]
  exact adopt_o hd
theorem call_goes_s {f : FuncId} {x : AV} (hp : pf f = 2) (hr : C f [.s true 0 []] = some (.t [x, .t [.s true 0 []]])) (hx : closed x = true) (h1 : room x ≤ 4) (h3 : ∀ k, adopt σ k x = some (x, σ)) : callOp C pf σ key f [.s true 0 []] = some (x, σ) := by
  have hk : killL σ [] = σ := by
    funext i
    simp [killL]
  rw [call2_eq hp]
  have e1 : needs σ [.s true 0 []] = [] := rfl
  have e3 : deepC (pack1 (frz0 σ [])) [.s true 0 []] = some ([.s true 0 []], []) := rfl
  rw [e1, e3]
  simp only [Option.bind_some, lend1]
  rw [if_pos (by simp), hr]
  simp only [Option.bind_some, lend2, e1, frz0, back, hk]
  rw [if_pos (by omega)]
  exact h3 _
end
theorem sort_call (L : List (List UInt8)) (hL : L.length < 4611686018427387904) : EE 34 [lentR L.length 9 1 (strs L)] = some (.t [.t [], .t [lentR L.length 9 1 (strs (sortS L))]]) := by
  refine EE_hand ?_
  simp only [hand, lentR, ni, handC, handS, unSL_strs, Option.bind_some]
  rw [if_neg (by decide)]
  simp only
  rw [if_pos ⟨trivial, trivial, rfl, trivial, trivial, hL⟩]
  rfl
theorem compact_call (L : List (List UInt8)) (hL : L.length < 4611686018427387904) : EE 35 [lentR L.length 9 1 (strs L)] = some (.t [.o 9 1 (Lib.compact L).length (strs (Lib.compact L)), .t [.t []]]) := by
  refine EE_hand ?_
  simp only [hand, lentR, ni, handC, handS, unSL_strs, Option.bind_some]
  rw [if_neg (by decide)]
  simp only
  rw [if_pos ⟨trivial, trivial, rfl, trivial, trivial, hL⟩, if_neg (by decide)]
  rfl
theorem sort_call0 : EE 34 [.s true 0 []] = some (.t [.t [], .t [.s true 0 []]]) := EE_hand rfl
theorem compact_call0 : EE 35 [.s true 0 []] = some (.t [.s true 0 [], .t [.s true 0 []]]) := EE_hand rfl
theorem varsAt_ev (x : Bool) (L : List (List UInt8)) (hL : L.length < 100000000) (a : Nat) (z : List UInt8) (r : List (List UInt8)) (hd : L.drop a = z :: r) (hb : begM z = true) (hcl : clo 1 r < r.length) :
    ∃ res, EE 17 [.s x L.length (strs L), N a] = some res ∧ (res = .o 9 1 (Lib.compact (sortS ((r.take (clo 1 r)).filter varP))).length (strs (Lib.compact (sortS ((r.take (clo 1 r)).filter varP)))) ∨ (res = .s true 0 [] ∧ Lib.compact (sortS ((r.take (clo 1 r)).filter varP)) = [])) := by
  have start : ∀ res, (evC II EE (withOpt [] pf) MX (strip (bodyOf Tryz.f17)) (St.init [.s x L.length (strs L), N a])).bind (resK II Tryz.f17.results.toList) = some res → EE 17 [.s x L.length (strs L), N a] = some res := fun res h =>
    EE_plain T_varsAt (by decide) (Nat.le_of_ble_eq_true rfl) (by simp only [closedL, closed, strs_closed, Bool.and_self]) h
  suffices hsuf : ∃ res, (evC II EE (withOpt [] pf) MX (strip (bodyOf Tryz.f17)) (St.init [.s x L.length (strs L), N a])).bind (resK II Tryz.f17.results.toList) = some res ∧ (res = .o 9 1 (Lib.compact (sortS ((r.take (clo 1 r)).filter varP))).length (strs (Lib.compact (sortS ((r.take (clo 1 r)).filter varP)))) ∨ (res = .s true 0 [] ∧ Lib.compact (sortS ((r.take (clo 1 r)).filter varP)) = [])) by
    obtain ⟨res, h1, h2⟩ := hsuf
    exact ⟨res, start res h1, h2⟩
  clear start
  simp only [bodyOf, Tryz.f17, SA]
  obtain ⟨hi, hx, hd'⟩ := strs_drop_head hd
  have hlo := levelsOf_ev x L hL (by omega)
  have hw : IntKind.i64.wrap ((a : Int) + 1) = ((a + 1 : Nat) : Int) := by rw [wrap64 (by omega) (by omega)]; rfl
  simp only [hlo, hw, ints_closed, RR, IA, PA, RA0, RA1, RA2, RA3, RA4, RA5, RA6, RA7, RA8, RA9, RA10, Nat.reduceAdd, Nat.reduceMul, Nat.reduceEqDiff, Nat.reduceLeDiff, Nat.reduceLT, Int.reduceToNat, Int.reduceLT, Int.reduceLE, Int.reduceEq, Int.reduceNeg, Int.reduceAdd, Int.reduceSub, Int.reduceMul, reduceIte]
  generalize hq : roundsE _ _ _ = q
  have hlev := lsI_get L 0 a z r hd
  rw [if_neg (by simp [beg_end hb])] at hlev
  have hst : sumL (L.take (a + 1)) = (0 + sumL (L.take a)) + 1 := by
    rw [sum_take hd]
    have : dL z = 1 := by simp [dL, hb]
    omega
  have hrl : r.length + 1 + a = L.length := by
    have := congrArg List.length hd
    rw [List.length_drop] at this
    simp only [List.length_cons] at this
    omega
  have key := fun p1 p2 p3 p4 p5 p6 p7 p8 => varsAt_loop x L hL 8 a _ hlev hi r (a + 1) MX 1 [] _ _ _ q hd' (by omega) (lt_MX (by omega)) (by omega) hst hcl (Nat.zero_le _) hq p1 p2 p3 p4 p5 p6 p7 p8
  obtain ⟨e', σ', nx', rfl, hlst⟩ := key rfl rfl rfl rfl (by decide) rfl (.inl ⟨rfl, rfl, rfl⟩) (by show 8 ∉ []; simp)
  clear hq key
  rw [List.nil_append] at hlst
  have hMl : ((r.take (clo 1 r)).filter varP).length ≤ L.length := by
    have h1 := List.length_filter_le varP (r.take (clo 1 r))
    have h2 := List.length_take_le (clo 1 r) r
    omega
  generalize (r.take (clo 1 r)).filter varP = M at hlst hMl ⊢
  rcases hlst with ⟨g1, g2, g3⟩ | ⟨id, g1, g2, g3, g4⟩
  · have hM0 : M = [] := by simpa using g2
    subst hM0
    refine ⟨.s true 0 [], ?_, .inr ⟨rfl, by simp [sortS, Lib.compact, Lib.compactUpTo]⟩⟩
    simp only [g1, RR, IA, PA, RA0, RA1, RA2, RA3, RA4, RA5, RA6, RA7, RA8, RA9, RA10, Nat.reduceAdd, Nat.reduceMul, Nat.reduceEqDiff, Nat.reduceLeDiff, Nat.reduceLT, Int.reduceToNat, Int.reduceLT, Int.reduceLE, Int.reduceEq, Int.reduceNeg, Int.reduceAdd, Int.reduceSub, Int.reduceMul, reduceIte]
    rw [call_goes_s (by rfl) sort_call0 rfl (by decide) (fun k => rfl)]
    simp only [g1, RR, IA, PA, RA0, RA1, RA2, RA3, RA4, RA5, RA6, RA7, RA8, RA9, RA10, Nat.reduceAdd, Nat.reduceMul, Nat.reduceEqDiff, Nat.reduceLeDiff, Nat.reduceLT, Int.reduceToNat, Int.reduceLT, Int.reduceLE, Int.reduceEq, Int.reduceNeg, Int.reduceAdd, Int.reduceSub, Int.reduceMul, reduceIte]
    rw [call_goes_s (by rfl) compact_call0 rfl (by decide) (fun k => rfl)]
    simp only [RR, IA, PA, RA0, RA1, RA2, RA3, RA4, RA5, RA6, RA7, RA8, RA9, RA10, Nat.reduceAdd, Nat.reduceMul, Nat.reduceEqDiff, Nat.reduceLeDiff, Nat.reduceLT, Int.reduceToNat, Int.reduceLT, Int.reduceLE, Int.reduceEq, Int.reduceNeg, Int.reduceAdd, Int.reduceSub, Int.reduceMul, reduceIte]
  · refine ⟨_, ?_, .inl rfl⟩
    have hs := sort_call M (by omega)
    have hsl : (sortS M).length = M.length := by simp [sortS, List.length_mergeSort]
    have hc := compact_call (sortS M) (by omega)
    simp only [g2, RR, IA, PA, RA0, RA1, RA2, RA3, RA4, RA5, RA6, RA7, RA8, RA9, RA10, Nat.reduceAdd, Nat.reduceMul, Nat.reduceEqDiff, Nat.reduceLeDiff, Nat.reduceLT, Int.reduceToNat, Int.reduceLT, Int.reduceLE, Int.reduceEq, Int.reduceNeg, Int.reduceAdd, Int.reduceSub, Int.reduceMul, reduceIte]
    rw [call_row_t (E := 9) (sz := 1) (by rfl) g3 (strs_closed _) hs]
    simp only [g2, RR, IA, PA, RA0, RA1, RA2, RA3, RA4, RA5, RA6, RA7, RA8, RA9, RA10, Nat.reduceAdd, Nat.reduceMul, Nat.reduceEqDiff, Nat.reduceLeDiff, Nat.reduceLT, Int.reduceToNat, Int.reduceLT, Int.reduceLE, Int.reduceEq, Int.reduceNeg, Int.reduceAdd, Int.reduceSub, Int.reduceMul, reduceIte]
    rw [hsl] at hc
    rw [call_row_gone (E := 9) (sz := 1) (cs := strs (sortS M)) (by rfl) (by simp only [upd, if_true]) (strs_closed _) (strs_closed _) hc]
    simp only [RR, IA, PA, RA0, RA1, RA2, RA3, RA4, RA5, RA6, RA7, RA8, RA9, RA10, Nat.reduceAdd, Nat.reduceMul, Nat.reduceEqDiff, Nat.reduceLeDiff, Nat.reduceLT, Int.reduceToNat, Int.reduceLT, Int.reduceLE, Int.reduceEq, Int.reduceNeg, Int.reduceAdd, Int.reduceSub, Int.reduceMul, reduceIte]
    exact give_row (by simp [upd]) (strs_closed _)
end
end Go.Proofs.YtegbkihgnofkfaaGreatDoor.Ev
