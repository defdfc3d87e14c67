/-
Texts Ze to Ze of the work.
-/
import Derived.Test.YtegbkihgnofkfaaDoorZZd
/-
Simplifying to the end: the reference's loop over the parts.
-/
namespace Go.Proofs.YtegbkihgnofkfaaDoor.Ev
section
set_option linter.unusedVariables false
set_option linter.unusedSimpArgs false
open Go Go.RowKit
set_option linter.unusedVariables false
set_option linter.unusedSimpArgs false
theorem T_simpS : TT 94 = some (Tryd.f94, bodyOf Tryd.f94) := by kernel_rfl
theorem opt_simpS : opt 94 = [oPl 120] := rfl
/-- The state of the reference's loop over the parts: cells: the parts; j: how many are done; bs: what is left of those. -/
structure SE (ex : Bool) (ds cells : List AV) (zn j : Nat) (bs cs : List AV) (e : Nat → AV) (σ : Sto) (nx : Nat) : Prop where
  e0 : e 0 = .p [.w 0 0 7]
  e3 : e 3 = .r 1 0
  e4 : e 4 = .r 5 0
  e12 : e 12 = .s ex zn cells
  e13 : e 13 = N zn
  e14 : e 14 = N j
  h0 : σ 0 = some (.row 3 1 7 cs)
  h1 : σ 1 = some (.ob 49 ds)
  h5 : ∃ x y z, σ 5 = some (.ob 49 [x, y, z])
  hb : (j = 0 ∧ bs = [] ∧ e 5 = .s true 0 []) ∨ ∃ kr, 0 < j ∧ e 5 = .w kr 0 j ∧ σ kr = some (.row 49 3 j bs) ∧ bs.length = j * 3 ∧ kr < nx ∧ 5 < kr
  n5 : 5 < nx
set_option maxHeartbeats 4000000 in
theorem simpS_step {m : Nat} {ex : Bool} {ds cells : List AV} {zn j : Nat} {bs cs cs' ps pb rest : List AV} {e : Nat → AV} {σ : Sto} {nx n : Nat} {q : Option (Ex × St)} (h : SE ex ds cells zn j bs cs e σ nx) (hd : cells.drop (j * 3) = ps ++ rest) (hi : j < zn) (hn : zn ≤ 100)
    (hcl : cells.length = zn * 3) (hpl : ps.length = 3) (hpf : ps.all leafOk = true) (hps : closedL ps = true) (hbl : pb.length = 3) (hbf : pb.all leafOk = true) (hpb : closedL pb = true) (hcs : closedL cs = true)
    (hr : EE 94 [lentP 7 3 1 cs, .a ps] = some (.t [.a pb, .t [lentP 7 3 1 cs', .a ps]]))
    (hq : roundsE (evC II EE (withOpt [oPl 120] pf) m (bodyL Tryd.f94 1)) (n + 1) ⟨e, σ, nx⟩ = q) :
    ∃ e' σ' nx', roundsE (evC II EE (withOpt [oPl 120] pf) m (bodyL Tryd.f94 1)) n ⟨e', σ', nx'⟩ = q ∧ SE ex ds cells zn (j + 1) (bs ++ pb) cs' e' σ' nx' := by
  rw [rounds_rd] at hq
  have hc : ((j : Int) < (zn : Int)) := by omega
  have hz : (0 : Int) ≤ (j : Int) := by omega
  have hw : IntKind.i64.wrap ((j : Int) + 1) = ((j + 1 : Nat) : Int) := by rw [wrap64 (by omega) (by omega)]; rfl
  have h0 := h.e0
  have h3 := h.e3
  have h4 := h.e4
  have h12 := h.e12
  have h13 := h.e13
  have h14 := h.e14
  have n5 := h.n5
  have htk : (ps ++ rest).take 3 = ps := by rw [List.take_append_of_le_length (by omega), List.take_of_length_le (by omega)]
  have hl3 : 3 ≤ (ps ++ rest).length := by rw [List.length_append]; omega
  have htk3 : ps.take 3 = ps := List.take_of_length_le (by omega)
  have hbtk : pb.take 3 = pb := List.take_of_length_le (by omega)
  have zk : ¬ (0 = nx + 4 + 8) := by omega
  simp only [bodyL, bodyOf, Tryd.f94, SA, loops, List.nil_append, List.append_nil, List.cons_append, List.getD_cons_zero, List.getD_cons_succ] at hq
  rcases h.hb with ⟨j0, rfl, h5⟩ | ⟨kr, j0, h5, hkr, hbs, krn, kr5⟩
  · simp only [h0, h3, h4, h5, h12, h13, h14, hc, hz, hd, hcl, hl3, htk, htk3, hpl, hpf, hbl, hbf, hbtk, hw, TMA, Int.toNat_natCast, Nat.mul_one, Nat.zero_add, RR, IA, PA, RA0, RA1, RA2, RA3, RA4, RA5, RA6, RA7, RA8, RA9, RA10, Nat.reduceAdd, Nat.reduceMul, Nat.reduceEqDiff, Nat.reduceLeDiff, Nat.reduceLT, Int.reduceToNat, Int.reduceLT, Int.reduceLE, Int.reduceEq, Int.reduceNeg, Int.reduceAdd, Int.reduceSub, Int.reduceMul, reduceIte] at hq
    rw [call2_L ((withOpt_pl (by decide) rfl).trans rfl), callL_pw (cs' := cs') (by simp only [upd, zk, if_false]; exact h.h0) hcs hps hr rfl (fun σ key => by rw [adopt_agg, if_pos hpb])] at hq
    simp only [h0, h3, h4, h5, h12, h13, h14, hc, hz, hd, hcl, hl3, htk, htk3, hpl, hpf, hbl, hbf, hbtk, hw, TMA, Int.toNat_natCast, Nat.mul_one, Nat.zero_add, RR, IA, PA, RA0, RA1, RA2, RA3, RA4, RA5, RA6, RA7, RA8, RA9, RA10, Nat.reduceAdd, Nat.reduceMul, Nat.reduceEqDiff, Nat.reduceLeDiff, Nat.reduceLT, Int.reduceToNat, Int.reduceLT, Int.reduceLE, Int.reduceEq, Int.reduceNeg, Int.reduceAdd, Int.reduceSub, Int.reduceMul, reduceIte] at hq
    rw [app_s (by decide) hbl hbf rfl (by omega) (by omega) (.inl (by decide))] at hq
    simp only [h0, h3, h4, h5, h12, h13, h14, hc, hz, hd, hcl, hl3, htk, htk3, hpl, hpf, hbl, hbf, hbtk, hw, TMA, Int.toNat_natCast, Nat.mul_one, Nat.zero_add, RR, IA, PA, RA0, RA1, RA2, RA3, RA4, RA5, RA6, RA7, RA8, RA9, RA10, Nat.reduceAdd, Nat.reduceMul, Nat.reduceEqDiff, Nat.reduceLeDiff, Nat.reduceLT, Int.reduceToNat, Int.reduceLT, Int.reduceLE, Int.reduceEq, Int.reduceNeg, Int.reduceAdd, Int.reduceSub, Int.reduceMul, reduceIte] at hq
    subst j0
    have k5 : ¬ (5 = nx + 4 + 8) := by omega
    have k5' : ¬ (5 = nx + 4 + 16 + 20) := by omega
    have k1 : ¬ (1 = nx + 4 + 8) := by omega
    have k1' : ¬ (1 = nx + 4 + 16 + 20) := by omega
    have z0 : ¬ (0 = nx + 4 + 16 + 20) := by omega
    have n50 : ¬ ((5 : Nat) = 0) := by decide
    have n10 : ¬ ((1 : Nat) = 0) := by decide
    obtain ⟨x, y, z, hx⟩ := h.h5
    refine ⟨_, _, _, hq, h0, h3, h4, h12, h13, rfl, ?_, ?_, ⟨x, y, z, ?_⟩, .inr ⟨nx + 4 + 16 + 20, Nat.succ_pos 0, rfl, ?_, by rw [List.nil_append]; omega, by omega, by omega⟩, by omega⟩
    · simp only [upd, z0, if_true, if_false]
    · simp only [upd, k1, k1', n10, if_false]
      exact h.h1
    · simp only [upd, k5, k5', n50, if_false]
      exact hx
    · simp only [upd, if_true, List.nil_append]
  · simp only [h0, h3, h4, h5, h12, h13, h14, hc, hz, hd, hcl, hl3, htk, htk3, hpl, hpf, hbl, hbf, hbtk, hw, TMA, Int.toNat_natCast, Nat.mul_one, Nat.zero_add, RR, IA, PA, RA0, RA1, RA2, RA3, RA4, RA5, RA6, RA7, RA8, RA9, RA10, Nat.reduceAdd, Nat.reduceMul, Nat.reduceEqDiff, Nat.reduceLeDiff, Nat.reduceLT, Int.reduceToNat, Int.reduceLT, Int.reduceLE, Int.reduceEq, Int.reduceNeg, Int.reduceAdd, Int.reduceSub, Int.reduceMul, reduceIte] at hq
    rw [call2_L ((withOpt_pl (by decide) rfl).trans rfl), callL_pw (cs' := cs') (by simp only [upd, zk, if_false]; exact h.h0) hcs hps hr rfl (fun σ key => by rw [adopt_agg, if_pos hpb])] at hq
    simp only [h0, h3, h4, h5, h12, h13, h14, hc, hz, hd, hcl, hl3, htk, htk3, hpl, hpf, hbl, hbf, hbtk, hw, TMA, Int.toNat_natCast, Nat.mul_one, Nat.zero_add, RR, IA, PA, RA0, RA1, RA2, RA3, RA4, RA5, RA6, RA7, RA8, RA9, RA10, Nat.reduceAdd, Nat.reduceMul, Nat.reduceEqDiff, Nat.reduceLeDiff, Nat.reduceLT, Int.reduceToNat, Int.reduceLT, Int.reduceLE, Int.reduceEq, Int.reduceNeg, Int.reduceAdd, Int.reduceSub, Int.reduceMul, reduceIte] at hq
    have krk : ¬ (kr = nx + 4 + 8) := by omega
    have kr0 : ¬ (kr = 0) := by omega
    rw [app_w (by simp only [upd, krk, kr0, if_false]; exact hkr) (by decide) hbl hbf hbs (by omega) (by omega) (by omega)] at hq
    simp only [h0, h3, h4, h5, h12, h13, h14, hc, hz, hd, hcl, hl3, htk, htk3, hpl, hpf, hbl, hbf, hbtk, hw, TMA, Int.toNat_natCast, Nat.mul_one, Nat.zero_add, RR, IA, PA, RA0, RA1, RA2, RA3, RA4, RA5, RA6, RA7, RA8, RA9, RA10, Nat.reduceAdd, Nat.reduceMul, Nat.reduceEqDiff, Nat.reduceLeDiff, Nat.reduceLT, Int.reduceToNat, Int.reduceLT, Int.reduceLE, Int.reduceEq, Int.reduceNeg, Int.reduceAdd, Int.reduceSub, Int.reduceMul, reduceIte] at hq
    have k5 : ¬ (5 = nx + 4 + 8) := by omega
    have k5' : ¬ (5 = nx + 4 + 16 + 20) := by omega
    have k1 : ¬ (1 = nx + 4 + 8) := by omega
    have k1' : ¬ (1 = nx + 4 + 16 + 20) := by omega
    have z0 : ¬ (0 = nx + 4 + 16 + 20) := by omega
    have n50 : ¬ ((5 : Nat) = 0) := by decide
    have n10 : ¬ ((1 : Nat) = 0) := by decide
    have zr : ¬ (0 = kr) := by omega
    have kr1 : ¬ (1 = kr) := by omega
    have kr5' : ¬ (5 = kr) := by omega
    obtain ⟨x, y, z, hx⟩ := h.h5
    refine ⟨_, _, _, hq, h0, h3, h4, h12, h13, rfl, ?_, ?_, ⟨x, y, z, ?_⟩, .inr ⟨nx + 4 + 16 + 20, Nat.succ_pos j, rfl, ?_, by rw [List.length_append]; omega, by omega, by omega⟩, by omega⟩
    · simp only [upd, z0, zr, if_true, if_false]
    · simp only [upd, k1, k1', n10, kr1, if_false]
      exact h.h1
    · simp only [upd, k5, k5', n50, kr5', if_false]
      exact hx
    · simp only [upd, if_true]
/-- The parts, what is left of them, the counts before and after. -/
inductive PRS : Nat → List AV → List AV → List AV → List AV → Prop
  | nil (cs : List AV) : PRS 0 [] [] cs cs
  | cons {k : Nat} {ps pb zs bs cs c1 cs' : List AV} {x y : T} (hr : EE 94 [lentP 7 3 1 cs, .a ps] = some (.t [.a pb, .t [lentP 7 3 1 c1, .a ps]])) (hp : IsN ps x) (hb : IsN pb y) (hc : closedL cs = true) (h : PRS k zs bs c1 cs') : PRS (k + 1) (ps ++ zs) (pb ++ bs) cs cs'
theorem PRS.len {k : Nat} {zs bs cs cs' : List AV} (h : PRS k zs bs cs cs') : zs.length = k * 3 ∧ bs.length = k * 3 ∧ closedL bs = true := by
  induction h with
  | nil => exact ⟨rfl, rfl, rfl⟩
  | cons _ hp hb _ _ ih =>
    have h1 := hp.len
    have h2 := hb.len
    refine ⟨?_, ?_, ?_⟩
    · rw [List.length_append]; omega
    · rw [List.length_append]; omega
    · rw [closedL_append, hb.closed, ih.2.2]; rfl
set_option maxHeartbeats 4000000 in
theorem simpS_inner {m : Nat} {ex : Bool} {ds cells : List AV} {zn : Nat} (hn : zn ≤ 100) (hcl : cells.length = zn * 3) {k : Nat} {todo bs' cs cs' : List AV} (hp : PRS k todo bs' cs cs') : ∀ (j : Nat) (bs : List AV) (e : Nat → AV) (σ : Sto) (nx n : Nat) (q : Option (Ex × St)), SE ex ds cells zn j bs cs e σ nx → cells.drop (j * 3) = todo → j + k = zn → k < n →
    roundsE (evC II EE (withOpt [oPl 120] pf) m (bodyL Tryd.f94 1)) n ⟨e, σ, nx⟩ = q → ∃ s', q = some (.exit 2, s') ∧ SE ex ds cells zn zn (bs ++ bs') cs' s'.e s'.σ s'.nx := by
  induction hp with
  | nil cs =>
    intro j bs e σ nx n q h ht hjk hl hq
    obtain ⟨n, rfl⟩ : ∃ k, n = k + 1 := ⟨n - 1, by omega⟩
    obtain rfl : j = zn := by omega
    rw [rounds_rd] at hq
    have hc : ¬ ((j : Int) < (j : Int)) := by omega
    have h13 := h.e13
    have h14 := h.e14
    simp only [bodyL, bodyOf, Tryd.f94, SA, loops, List.nil_append, List.append_nil, List.cons_append, List.getD_cons_zero, List.getD_cons_succ] at hq
    simp only [h13, h14, hc, TMA, RR, IA, PA, RA0, RA1, RA2, RA3, RA4, RA5, RA6, RA7, RA8, RA9, RA10, Nat.reduceAdd, Nat.reduceMul, Nat.reduceEqDiff, Nat.reduceLeDiff, Nat.reduceLT, Int.reduceToNat, Int.reduceLT, Int.reduceLE, Int.reduceEq, Int.reduceNeg, Int.reduceAdd, Int.reduceSub, Int.reduceMul, reduceIte] at hq
    refine ⟨_, hq.symm, ?_⟩
    rw [List.append_nil]
    exact ⟨h.e0, h.e3, h.e4, h.e12, h.e13, h.e14, h.h0, h.h1, h.h5, by
      rcases h.hb with x | ⟨kr, x1, x2, x3, x4, x5, x6⟩
      · exact .inl x
      · exact .inr ⟨kr, x1, x2, x3, x4, by show kr < nx + 4; omega, x6⟩, by have := h.n5; show 5 < nx + 4; omega⟩
  | cons hr hp hb hc k ih =>
    rename_i kk ps pb todo bs1 cs c1 cs' x y
    intro j bs e σ nx n q h ht hjk hl hq
    obtain ⟨n, rfl⟩ : ∃ k, n = k + 1 := ⟨n - 1, by omega⟩
    obtain ⟨e', σ', nx', hq', h'⟩ := simpS_step h ht (by omega) hn hcl hp.len hp.leaf hp.closed hb.len hb.leaf hb.closed hc hr hq
    obtain ⟨s', g1, g2⟩ := ih (j + 1) (bs ++ pb) e' σ' nx' n q h' (by
      rw [Nat.add_mul, ← List.drop_drop, ht, Nat.one_mul, List.drop_append, List.drop_eq_nil_of_le (by have := hp.len; omega), List.nil_append, show 3 - ps.length = 0 by have := hp.len; omega, List.drop_zero]) (by omega) (by omega) hq'
    exact ⟨s', g1, by rw [List.append_assoc] at g2; exact g2⟩
/-- What the loop has made, told as a list. -/
def Made (σ : Sto) (x : AV) (j : Nat) (bs : List AV) (is : List Nat) : Prop := ∀ d, ∃ ex', Ev.deep σ (d + 2) x = some (.s ex' j bs, is)
theorem deep_madeX {σ : Sto} {x : AV} {j : Nat} {bs : List AV} {is : List Nat} {ex' : Bool} (u w : UInt8) (d : Nat) (h : Ev.deep σ (d + 2) x = some (.s ex' j bs, is)) : Ev.deep σ (d + 3) (.a [U u, U w, x]) = some (.a [U u, U w, .s ex' j bs], is) := by
  have q1 : Ev.deep σ (d + 2) (U u) = some (U u, []) := rfl
  have q2 : Ev.deep σ (d + 2) (U w) = some (U w, []) := rfl
  rw [deep_aX]
  simp only [deepC, q1, q2, h, Option.bind_some, Option.map_some, List.append_nil, List.nil_append]
/-- The rule called of what the loop has made. -/
theorem ruleS_call {pf' : FuncId → Nat} {σ : Sto} {nx j : Nat} {x : AV} {bs : List AV} {o : Option (Nat × T)} {t : T} (u w : UInt8) (hp : pf' 120 = 0) (hb : closedL bs = true)
    (hx : (j = 0 ∧ bs = [] ∧ x = .s true 0 []) ∨ ∃ kr, 0 < j ∧ x = .w kr 0 j ∧ σ kr = some (.row 49 3 j bs) ∧ bs.length = j * 3 ∧ kr < nx ∧ 5 < kr)
    (hr : ∀ ex', ∃ r, EE 120 [.a [U u, U w, .s ex' j bs]] = some r ∧ RulS r t o) :
    ∃ σ' r ex', RulS r t o ∧ (∀ key, callOp EE pf' σ key 120 [.a [U u, U w, x]] = some (r, σ')) ∧ (∀ i, i ≤ 5 → σ' i = σ i) ∧ (∀ σ2 : Sto, (∀ i, 5 < i → i < nx → σ2 i = σ' i) → Ev.deep σ2 8 (.a [U u, U w, x]) = some (.a [U u, U w, .s ex' j bs], [])) := by
  have had : ∀ {r : AV} (σ : Sto) (key : Nat), RulS r t o → adopt σ key r = some (r, σ) := by
    intro r σ key h
    cases o with
    | none =>
      obtain ⟨cs, rfl, h⟩ := h
      exact adopt_rn _ _ _ (by simpa only [closed] using h.closed)
    | some q =>
      obtain ⟨k, v⟩ := q
      obtain ⟨cs, rfl, h⟩ := h
      exact adopt_rn _ _ _ (by simpa only [closed] using h.closed)
  have hfl : ∀ {r : AV}, RulS r t o → flat r = false := by
    intro r h
    cases o with
    | none =>
      obtain ⟨cs, rfl, h⟩ := h
      rfl
    | some q =>
      obtain ⟨k, v⟩ := q
      obtain ⟨cs, rfl, h⟩ := h
      rfl
  rcases hx with ⟨rfl, rfl, rfl⟩ | ⟨kr, j0, rfl, hkr, hl, krn, kr5⟩
  · obtain ⟨r, h1, h2⟩ := hr true
    refine ⟨σ, r, true, h2, fun key => ?_, fun i _ => rfl, fun σ2 _ => rfl⟩
    have hc : closedL [AV.a [U u, U w, .s true 0 []]] = true := rfl
    rw [call0_eq hp hc, h1]
    exact had _ _ h2
  · obtain ⟨r, h1, h2⟩ := hr false
    have hd7 : Ev.deep σ 7 (.w kr 0 j) = some (.s false j bs, [kr]) := by
      rw [deep_w 6 hkr (by omega) hb, List.drop_zero, List.take_of_length_le (by omega)]
    have hd : deepC (Ev.deep σ 8) [.a [U u, U w, .w kr 0 j]] = some ([.a [U u, U w, .s false j bs]], [kr]) := by
      have q := deep_madeX (σ := σ) u w 5 hd7
      simp only [deepC, q, Option.bind_some, Option.map_some, List.append_nil]
    have hk : frz σ 8 [kr] kr = some (.fz bs) := by
      unfold frz
      rw [if_pos (List.mem_singleton.2 rfl), hkr]
      simp only [Option.bind_some, Slot.cells, deepL_closed 8 hb, List.all_nil, if_true]
    refine ⟨frz σ 8 [kr], r, false, h2, fun key => ?_, fun i hi => ?_, fun σ2 h => ?_⟩
    · unfold callOp
      rw [if_neg (by omega), if_neg (by omega), if_neg (by omega), hd]
      simp only [Option.bind_some, h1]
      rw [if_neg (by
        rw [hfl h2]
        simp)]
      exact had _ _ h2
    · unfold frz
      rw [if_neg (by simp only [List.mem_singleton]; omega)]
    · have h3 : σ2 kr = some (.fz bs) := (h kr kr5 krn).trans hk
      have h4 : Ev.deep σ2 7 (.w kr 0 j) = some (.s false j bs, []) := by
        have hne : bs ≠ [] := fun e => by rw [e] at hl; simp only [List.length_nil] at hl; omega
        show (match σ2 kr with
          | some (.row _ sz _ cs) => _
          | some (.fz cs) => if closedL cs ∧ cs ≠ [] ∧ 0 < j then some (AV.s false j (cs.drop 0), []) else none
          | _ => none) = _
        rw [h3]
        simp only
        rw [if_pos ⟨hb, hne, j0⟩, List.drop_zero]
      exact deep_madeX u w 5 h4
set_option maxHeartbeats 4000000 in
theorem simpS_round {m : Nat} {g w : UInt8} {ex : Bool} {cells bs : List AV} {zn : Nat} {c c' : List Int} {t : T} {e : Nat → AV} {σ : Sto} {nx n : Nat} {q : Option (Ex × St)} {o : Option (Nat × T)}
    (h0 : e 0 = .p [.w 0 0 7]) (h3 : e 3 = .r 1 0) (h4 : e 4 = .r 5 0) (hσ : σ 0 = some (.row 3 1 7 (ints c))) (hσ1 : σ 1 = some (.ob 49 [U g, U w, .s ex zn cells])) (hσ5 : ∃ x y z, σ 5 = some (.ob 49 [x, y, z])) (n5 : 5 < nx)
    (hp : PRS zn cells bs (ints c) (ints c')) (hlen : zn ≤ 100) (hm : zn < m) (hc7 : c'.length = 7)
    (hrule : ∀ ex', ∃ r, EE 120 [.a [U g, U w, .s ex' zn bs]] = some r ∧ RulS r t o) (ho : ∀ k u, o = some (k, u) → 0 < k ∧ k ≤ 6)
    (hq : roundsE (evC II EE (withOpt [oPl 120] pf) m (bodyL Tryd.f94 0)) (n + 1) ⟨e, σ, nx⟩ = q) :
    (o = none → ∃ s' x ex', q = some (.ret, s') ∧ s'.e 4 = .r 5 0 ∧ s'.σ 5 = some (.ob 49 [U g, U w, x]) ∧ Ev.deep s'.σ 8 (.a [U g, U w, x]) = some (.a [U g, U w, .s ex' zn bs], []) ∧ s'.σ 0 = some (.row 3 1 7 (ints c'))) ∧
    (∀ k u, o = some (k, u) → ∃ cs e' σ' nx', IsN cs u ∧ e' 0 = .p [.w 0 0 7] ∧ e' 3 = .r 1 0 ∧ e' 4 = .r 5 0 ∧ σ' 0 = some (.row 3 1 7 (ints (incC k c'))) ∧ σ' 1 = some (.ob 49 cs) ∧ (∃ x y z, σ' 5 = some (.ob 49 [x, y, z])) ∧ 5 < nx' ∧
      roundsE (evC II EE (withOpt [oPl 120] pf) m (bodyL Tryd.f94 0)) n ⟨e', σ', nx'⟩ = q) := by
  have hcl := hp.len
  rw [rounds_rd] at hq
  simp only [bodyL, bodyOf, Tryd.f94, SA, loops, List.nil_append, List.append_nil, List.cons_append, List.getD_cons_zero, List.getD_cons_succ] at hq
  simp only [h0, h3, h4, hσ, hσ1, TMA, Int.toNat_natCast, Nat.mul_one, Nat.zero_add, RR, IA, PA, RA0, RA1, RA2, RA3, RA4, RA5, RA6, RA7, RA8, RA9, RA10, Nat.reduceAdd, Nat.reduceMul, Nat.reduceEqDiff, Nat.reduceLeDiff, Nat.reduceLT, Int.reduceToNat, Int.reduceLT, Int.reduceLE, Int.reduceEq, Int.reduceNeg, Int.reduceAdd, Int.reduceSub, Int.reduceMul, reduceIte] at hq
  generalize hqq : roundsE _ m _ = q2 at hq
  have hin := fun H => simpS_inner (ex := ex) (ds := [U g, U w, .s ex zn cells]) hlen hcl.1 hp 0 [] _ _ _ m _ H (by rw [Nat.zero_mul, List.drop_zero]) (Nat.zero_add _) hm hqq
  obtain ⟨⟨e', σ', nx'⟩, rfl, hs⟩ := hin ⟨h0, h3, h4, rfl, rfl, rfl, hσ, hσ1, hσ5, .inl ⟨rfl, rfl, rfl⟩, by omega⟩
  rw [List.nil_append] at hs
  have h0' := hs.e0
  have h3' := hs.e3
  have h4' := hs.e4
  have hs0 := hs.h0
  have hs1 := hs.h1
  simp only at h0' h3' h4' hs0 hs1
  have hxx : ∃ x5, e' 5 = x5 ∧ leaves x5 = some [x5] ∧ leafOk x5 = true ∧ ((zn = 0 ∧ bs = [] ∧ x5 = .s true 0 []) ∨ ∃ kr, 0 < zn ∧ x5 = .w kr 0 zn ∧ σ' kr = some (.row 49 3 zn bs) ∧ bs.length = zn * 3 ∧ kr < nx' ∧ 5 < kr) := by
    refine ⟨e' 5, rfl, ?_⟩
    rcases hs.hb with ⟨x1, x2, x3⟩ | ⟨kr, x1, x2, x3, x4, x5, x6⟩
    · simp only at x3
      rw [x3]
      exact ⟨rfl, rfl, .inl ⟨x1, x2, rfl⟩⟩
    · simp only at x2 x3 x5
      rw [x2]
      exact ⟨rfl, rfl, .inr ⟨kr, x1, rfl, x3, x4, x5, x6⟩⟩
  obtain ⟨x5, hx5, hlv, hlf, hxb⟩ := hxx
  simp only [h0', h3', h4', hs0, hs1, hx5, hlv, hlf, TMA, Int.toNat_natCast, Nat.mul_one, Nat.zero_add, RR, IA, PA, RA0, RA1, RA2, RA3, RA4, RA5, RA6, RA7, RA8, RA9, RA10, Nat.reduceAdd, Nat.reduceMul, Nat.reduceEqDiff, Nat.reduceLeDiff, Nat.reduceLT, Int.reduceToNat, Int.reduceLT, Int.reduceLE, Int.reduceEq, Int.reduceNeg, Int.reduceAdd, Int.reduceSub, Int.reduceMul, reduceIte] at hq
  obtain ⟨y1, y2, y3, hs5⟩ := hs.h5
  simp only at hs5
  obtain ⟨σ2, r, ex', hR, hcall, hlow, hdeep⟩ := ruleS_call (pf' := withOpt [oPl 120] pf) (σ := upd σ' 1 (some (.ob 49 [U g, U w, x5]))) (nx := nx') (x := x5) g w (withOpt_pl_on (by decide) rfl) hcl.2.2 (by
    rcases hxb with x | ⟨kr, x1, x2, x3, x4, x5, x6⟩
    · exact .inl x
    · exact .inr ⟨kr, x1, x2, (upd_ne _ _ _ _ (by omega)).trans x3, x4, x5, x6⟩) hrule
  have l0 : σ2 0 = some (.row 3 1 7 (ints c')) := by
    rw [hlow 0 (by decide), upd_ne _ _ _ _ (by decide)]
    exact hs0
  have l1 : σ2 1 = some (.ob 49 [U g, U w, x5]) := by
    rw [hlow 1 (by decide)]
    simp only [upd, if_true]
  have l5 : σ2 5 = some (.ob 49 [y1, y2, y3]) := by
    rw [hlow 5 (by decide), upd_ne _ _ _ _ (by decide)]
    exact hs5
  have k90 : ¬ (0 = nx' + 28 + 20) := by omega
  have k91 : ¬ (1 = nx' + 28 + 20) := by omega
  have k95 : ¬ (5 = nx' + 28 + 20) := by omega
  cases o with
  | none =>
    obtain ⟨cs, rfl, hcs⟩ := hR
    have ul := hcs.len
    have uf := hcs.leaf
    have ut := hcs.tk
    simp only [h0', h3', h4', hs0, hs1, hx5, hlv, hlf, hcall, l0, l1, l5, ul, uf, ut, k90, k91, k95, TMA, Int.toNat_natCast, Nat.mul_one, Nat.zero_add, RR, IA, PA, RA0, RA1, RA2, RA3, RA4, RA5, RA6, RA7, RA8, RA9, RA10, Nat.reduceAdd, Nat.reduceMul, Nat.reduceEqDiff, Nat.reduceLeDiff, Nat.reduceLT, Int.reduceToNat, Int.reduceLT, Int.reduceLE, Int.reduceEq, Int.reduceNeg, Int.reduceAdd, Int.reduceSub, Int.reduceMul, reduceIte] at hq
    refine ⟨fun _ => ⟨_, x5, ex', hq.symm, h4', by simp only [upd, if_true], hdeep _ (fun i h1 h2 => ?_), ?_⟩, fun k u h => by cases h⟩
    · have i5 : ¬ (i = 5) := by omega
      have i9 : ¬ (i = nx' + 28 + 20) := by omega
      simp only [upd, i5, i9, if_false]
    · have n05 : ¬ ((0 : Nat) = 5) := by decide
      simp only [upd, k90, n05, if_false]
      exact l0
  | some p =>
    obtain ⟨k, u⟩ := p
    obtain ⟨cs, rfl, hcs⟩ := hR
    have ul := hcs.len
    have uf := hcs.leaf
    have ut := hcs.tk
    obtain ⟨k0, k6⟩ := ho k u rfl
    have kn0 : ¬ ((k : Int) = 0) := by omega
    have kz : (0 : Int) ≤ (k : Int) := by omega
    have k7 : (k : Int) < ((7 : Nat) : Int) := by omega
    have k1 : k + 1 ≤ c'.length := by omega
    obtain ⟨x, hx⟩ : ∃ x, c'[k]? = some x := ⟨c'[k]'(by omega), List.getElem?_eq_getElem (by omega)⟩
    have hhd : ((ints c').drop k).head? = some (N x) := by
      rw [List.head?_drop, ints_get, hx]
      rfl
    refine ⟨fun h => (by cases h), fun k' u' h => ?_⟩
    cases h
    simp only [h0', h3', h4', hs0, hs1, hx5, hlv, hlf, hcall, l0, l1, l5, ul, uf, ut, k90, k91, k95, kn0, kz, k7, k1, hhd, TMA, Int.toNat_natCast, Nat.mul_one, Nat.zero_add, RR, IA, PA, RA0, RA1, RA2, RA3, RA4, RA5, RA6, RA7, RA8, RA9, RA10, Nat.reduceAdd, Nat.reduceMul, Nat.reduceEqDiff, Nat.reduceLeDiff, Nat.reduceLT, Int.reduceToNat, Int.reduceLT, Int.reduceLE, Int.reduceEq, Int.reduceNeg, Int.reduceAdd, Int.reduceSub, Int.reduceMul, reduceIte] at hq
    have n01 : ¬ ((0 : Nat) = 1) := by decide
    have n51 : ¬ ((5 : Nat) = 1) := by decide
    have n50 : ¬ ((5 : Nat) = 0) := by decide
    refine ⟨cs, _, _, _, hcs, ?_, ?_, ?_, ?_, ?_, ⟨y1, y2, y3, ?_⟩, ?_, hq⟩
    · exact h0'
    · exact h3'
    · exact h4'
    · simp only [upd, n01, if_true, if_false]
      rw [← ints_set hx]
    · simp only [upd, if_true]
    · simp only [upd, n51, n50, k95, if_false]
      exact l5
    · omega
def SimpS (n : Nat) : Prop := ∀ (ds : List AV) (t : T) (c : List Int), IsN ds t → WF t → (textT t).length ≤ n → c.length = 7 →
  ∃ bs, EE 94 [lentP 7 3 1 (ints c), .a ds] = some (.t [.a bs, .t [lentP 7 3 1 (ints (simpF n (t, c)).2), .a ds]]) ∧ IsN bs (simpF n (t, c)).1
def LoopS (n : Nat) : Prop := ∀ (ds : List AV) (t : T) (c : List Int) (e : Nat → AV) (σ : Sto) (nx r : Nat), IsN ds t → WF t → (textT t).length ≤ n → c.length = 7 → e 0 = .p [.w 0 0 7] → e 3 = .r 1 0 → e 4 = .r 5 0 → σ 0 = some (.row 3 1 7 (ints c)) → σ 1 = some (.ob 49 ds) → (∃ x y z, σ 5 = some (.ob 49 [x, y, z])) → 5 < nx → n < r →
  ∃ s' x y z bs, roundsE (evC II EE (withOpt [oPl 120] pf) 100 (bodyL Tryd.f94 0)) r ⟨e, σ, nx⟩ = some (.ret, s') ∧ s'.e 4 = .r 5 0 ∧ s'.σ 5 = some (.ob 49 [x, y, z]) ∧ Ev.deep s'.σ 8 (.a [x, y, z]) = some (.a bs, []) ∧ s'.σ 0 = some (.row 3 1 7 (ints (simpF n (t, c)).2)) ∧ IsN bs (simpF n (t, c)).1
theorem loopS_any {n : Nat} (hn : n + 1 ≤ 80) (hL : LoopS n) {t : T} {c : List Int} {g w : UInt8} {ex : Bool} {zn : Nat} {cells bs : List AV} {e : Nat → AV} {σ : Sto} {nx r : Nat}
    (hw : WF (partsF (simpF n) t c).1) (hl : (textT (partsF (simpF n) t c).1).length ≤ n + 1) (hc : (partsF (simpF n) t c).2.length = 7) (h0 : e 0 = .p [.w 0 0 7]) (h3 : e 3 = .r 1 0) (h4 : e 4 = .r 5 0) (hσ : σ 0 = some (.row 3 1 7 (ints c))) (hσ1 : σ 1 = some (.ob 49 [U g, U w, .s ex zn cells])) (hσ5 : ∃ x y z, σ 5 = some (.ob 49 [x, y, z])) (n5 : 5 < nx)
    (hp : PRS zn cells bs (ints c) (ints (partsF (simpF n) t c).2)) (hlen : zn ≤ 2) (his : ∀ ex', IsN [U g, U w, .s ex' zn bs] (partsF (simpF n) t c).1) (hr : n + 1 < r) :
    ∃ s' x y z bs, roundsE (evC II EE (withOpt [oPl 120] pf) 100 (bodyL Tryd.f94 0)) r ⟨e, σ, nx⟩ = some (.ret, s') ∧ s'.e 4 = .r 5 0 ∧ s'.σ 5 = some (.ob 49 [x, y, z]) ∧ Ev.deep s'.σ 8 (.a [x, y, z]) = some (.a bs, []) ∧ s'.σ 0 = some (.row 3 1 7 (ints (simpF (n + 1) (t, c)).2)) ∧ IsN bs (simpF (n + 1) (t, c)).1 := by
  obtain ⟨r, rfl⟩ : ∃ k, r = k + 1 := ⟨r - 1, by omega⟩
  have hrd := simpS_round (m := 100) (n := r) (q := _) (nx := nx) h0 h3 h4 hσ hσ1 hσ5 n5 hp (by omega) (by omega) hc (fun ex' => l10Rule_ev (his ex') hw (by omega)) (fun k u h => ⟨(ruleT_wf hw h).2.2, ruleT_le h⟩) rfl
  simp only [simpF]
  cases ho : ruleT (partsF (simpF n) t c).1 with
  | none =>
    obtain ⟨s', x, ex', q1, q2, q3, q4, q5⟩ := hrd.1 ho
    exact ⟨s', _, _, x, _, q1, q2, q3, q4, q5, his ex'⟩
  | some p =>
    obtain ⟨k, u⟩ := p
    obtain ⟨cs, e', σ', nx', q1, q2, q3, q4, q5, q6, q7, q8, q9⟩ := hrd.2 k u ho
    obtain ⟨w1, w2, w3⟩ := ruleT_wf hw ho
    rw [← q9]
    exact hL cs u _ e' σ' nx' r q1 w1 (by omega) ((incC_len _ _).trans hc) q2 q3 q4 q5 q6 q7 q8 (by omega)
theorem loopS_next {n : Nat} (hn : n + 1 ≤ 80) (hL : LoopS n) (hS : SimpS n) : LoopS (n + 1) := by
  intro ds t c e σ nx r h hw hl hc h0 h3 h4 hσ hσ1 hσ5 n5 hr
  have hfit := partsF_fit (n := n) (f := simpF n) (fun x l hx hlx => simpF_fit n x l hx hlx) hw hl c
  have hle := hfit.le
  cases h with
  | dig ex d => exact loopS_any (cells := []) (bs := []) hn hL hfit.wf (by omega) (hfit.ln.trans hc) h0 h3 h4 hσ hσ1 hσ5 n5 (.nil _) (by decide) (fun ex' => .dig ex' d) hr
  | var ex d => exact loopS_any (cells := []) (bs := []) hn hL hfit.wf (by omega) (hfit.ln.trans hc) h0 h3 h4 hσ hσ1 hσ5 n5 (.nil _) (by decide) (fun ex' => .var ex' d) hr
  | one ex g hx =>
    simp only [textT, List.length_cons] at hl
    obtain ⟨bs, p1, p2⟩ := hS _ _ c hx hw.2 (by omega) hc
    have hp := PRS.cons p1 hx p2 (ints_closed _) (.nil _)
    rw [List.append_nil, List.append_nil] at hp
    exact loopS_any hn hL hfit.wf (by simp only [textT, List.length_cons] at hle; omega) (hfit.ln.trans hc) h0 h3 h4 hσ hσ1 hσ5 n5 hp (by decide) (fun ex' => .one ex' g p2) hr
  | two ex g hx hy =>
    simp only [textT, List.length_cons, List.length_append, List.length_nil] at hl
    obtain ⟨bs, p1, p2⟩ := hS _ _ c hx hw.2.1 (by omega) hc
    obtain ⟨bs2, q1, q2⟩ := hS _ _ _ hy hw.2.2 (by omega) ((simpF_fit n _ c hw.2.1 (by omega)).ln.trans hc)
    have hp := PRS.cons p1 hx p2 (ints_closed _) (.cons q1 hy q2 (ints_closed _) (.nil _))
    rw [List.append_nil, List.append_nil] at hp
    exact loopS_any hn hL hfit.wf (by simp only [textT, List.length_cons, List.length_append, List.length_nil] at hle; omega) (hfit.ln.trans hc) h0 h3 h4 hσ hσ1 hσ5 n5 hp (by decide) (fun ex' => .two ex' g p2 q2) hr
  | loop ex g v hx hy =>
    simp only [textT, List.length_cons, List.length_append, List.length_nil] at hl
    obtain ⟨bs, p1, p2⟩ := hS _ _ c hx hw.2.2.1 (by omega) hc
    obtain ⟨bs2, q1, q2⟩ := hS _ _ _ hy hw.2.2.2 (by omega) ((simpF_fit n _ c hw.2.2.1 (by omega)).ln.trans hc)
    have hp := PRS.cons p1 hx p2 (ints_closed _) (.cons q1 hy q2 (ints_closed _) (.nil _))
    rw [List.append_nil, List.append_nil] at hp
    exact loopS_any hn hL hfit.wf (by simp only [textT, List.length_cons, List.length_append, List.length_nil] at hle; omega) (hfit.ln.trans hc) h0 h3 h4 hσ hσ1 hσ5 n5 hp (by decide) (fun ex' => .loop ex' g v p2 q2) hr
/-- What is handed over by way of a cell. -/
theorem out_pd {rs : List ResultVar} {s : St} {n E sz : Nat} {ds xs bs cs : List AV} (h1 : evRes II s rs = some [.a xs]) (h2 : Ev.deep s.σ 8 (.a xs) = some (.a bs, [])) (hσ : s.σ 0 = some (.row E sz n cs)) (hc : closedL cs = true) (ha : closedL ds = true) :
    outK II rs [.p [.w 0 0 n], .a ds] (.ret, s) = some (.t [.a bs, .t [lentP n E sz cs, .a ds]]) := by
  have h3 : giveL s.σ [.a xs] = some ([.a bs], [], []) := by
    simp only [giveL, give1, h2, Option.map_some, Option.bind_some, List.append_nil]
  have h4 : deepC (packO s.σ) [.p [.w 0 0 n], .a ds] = some ([lentP n E sz cs, .a ds], [0]) := by
    have q : packO s.σ (.a ds) = some (.a ds, []) := packO_goes (by exact ha)
    have q2 : packO s.σ (.p [.w 0 0 n]) = _ := pack_prow hσ hc
    simp only [deepC, q, q2, Option.map_some, Option.bind_some, List.nil_append, List.append_nil]
  simp only [outK, h1, Option.bind_some, h3, h4]
  rw [if_pos ⟨by simp, by simp⟩]
theorem block_ret {F : Ex × St → Option AV} {s : St} {id : Nat} : (Option.map (blockK id) (some (Ex.ret, s))).bind F = F (.ret, s) := rfl
set_option maxHeartbeats 4000000 in
theorem simpS_of {n : Nat} (hn : n < 100) (hL : LoopS n) : SimpS n := by
  intro ds t c h hw hl hc
  have hrun := fun e σ nx h0 h3 h4 hσ hσ1 hσ5 n5 => hL ds t c e σ nx 100 h hw hl hc h0 h3 h4 hσ hσ1 hσ5 n5 hn
  simp only [bodyL, bodyOf, Tryd.f94, SA, loops, List.nil_append, List.append_nil, List.cons_append, List.getD_cons_zero, List.getD_cons_succ] at hrun
  have hrun2 : ∀ y, ((evC II EE (withOpt (opt 94) pf) 100 (strip (bodyOf Tryd.f94)) ⟨fun t => [.p [.w 0 0 7], .a ds].getD t (.v undef), upd (fun _ => none) 0 (some (.row 3 1 7 (ints c))), 1⟩).bind (outK II Tryd.f94.results.toList [.p [.w 0 0 7], .a ds])) = some y → EE 94 [lentP 7 3 1 (ints c), .a ds] = some y := fun y h => EE_few_pw 100 T_simpS (by decide) (Nat.le_of_ble_eq_true rfl) h
  rw [opt_simpS] at hrun2
  simp only [bodyOf, Tryd.f94, SA] at hrun2
  have ul := h.len
  have uf := h.leaf
  have ut := h.tk
  simp only [ul, uf, ut, TMA, Int.toNat_natCast, Nat.mul_one, Nat.zero_add, RR, IA, PA, RA0, RA1, RA2, RA3, RA4, RA5, RA6, RA7, RA8, RA9, RA10, Nat.reduceAdd, Nat.reduceMul, Nat.reduceEqDiff, Nat.reduceLeDiff, Nat.reduceLT, Int.reduceToNat, Int.reduceLT, Int.reduceLE, Int.reduceEq, Int.reduceNeg, Int.reduceAdd, Int.reduceSub, Int.reduceMul, reduceIte] at hrun2
  generalize hqq : roundsE _ 100 _ = q2 at hrun2
  have hk : ∃ s' x y z bs, q2 = some (.ret, s') ∧ s'.e 4 = .r 5 0 ∧ s'.σ 5 = some (.ob 49 [x, y, z]) ∧ Ev.deep s'.σ 8 (.a [x, y, z]) = some (.a bs, []) ∧ s'.σ 0 = some (.row 3 1 7 (ints (simpF n (t, c)).2)) ∧ IsN bs (simpF n (t, c)).1 := by
    rw [← hqq]
    exact hrun _ _ _ rfl rfl rfl rfl rfl ⟨_, _, _, rfl⟩ (by decide)
  obtain ⟨⟨e', σ', nx'⟩, x, y, z, bs, rfl, g2, g3, g4, g5, g6⟩ := hk
  refine ⟨bs, hrun2 _ ?_, g6⟩
  rw [block_ret]
  simp only at g2 g3
  refine out_pd (bs := bs) (xs := [x, y, z]) ?_ g4 g5 (ints_closed _) h.closed
  simp only [g2, g3, TMA, Int.toNat_natCast, Nat.mul_one, Nat.zero_add, RR, IA, PA, RA0, RA1, RA2, RA3, RA4, RA5, RA6, RA7, RA8, RA9, RA10, Nat.reduceAdd, Nat.reduceMul, Nat.reduceEqDiff, Nat.reduceLeDiff, Nat.reduceLT, Int.reduceToNat, Int.reduceLT, Int.reduceLE, Int.reduceEq, Int.reduceNeg, Int.reduceAdd, Int.reduceSub, Int.reduceMul, reduceIte]
theorem simpS_all : ∀ n, n ≤ 80 → LoopS n ∧ SimpS n
  | 0, h => by
    have hL : LoopS 0 := by
      intro ds t c e σ nx r _ _ hl
      have := text_pos t
      omega
    exact ⟨hL, simpS_of (by omega) hL⟩
  | n + 1, h => by
    obtain ⟨h1, h2⟩ := simpS_all n (by omega)
    have hL := loopS_next (by omega) h1 h2
    exact ⟨hL, simpS_of (by omega) hL⟩
end
end Go.Proofs.YtegbkihgnofkfaaDoor.Ev
