/-
Texts Zd to Zd of the work.
-/
import Derived.Test.YtegbkihgnofkfaaDoorZZc
/-
Simplifying to the end: the implementation's loop over the parts.
-/
namespace Go.Proofs.YtegbkihgnofkfaaDoor.Ev
section
set_option linter.unusedVariables false
set_option linter.unusedSimpArgs false
open Go Go.RowKit
set_option linter.unusedVariables false
set_option linter.unusedSimpArgs false
theorem ruleT_le {t : T} {k : Nat} {u : T} (h : ruleT t = some (k, u)) : k ≤ 6 := by
  cases t with
  | dig c => cases h
  | var c => cases h
  | one s x =>
    simp only [ruleT] at h
    cases x with
    | one q z =>
      simp only [oneM] at h
      split at h
      · split at h
        · simp only [Option.some.injEq, Prod.mk.injEq] at h; omega
        · split at h
          · simp only [Option.some.injEq, Prod.mk.injEq] at h; omega
          · cases h
      · cases h
    | loop q w a b =>
      simp only [oneM] at h
      split at h
      · simp only [Option.some.injEq, Prod.mk.injEq] at h; omega
      · cases h
    | _ => cases h
  | two s x y =>
    simp only [ruleT] at h
    split at h
    · simp only [Option.some.injEq, Prod.mk.injEq] at h; omega
    · obtain ⟨q, _, h⟩ := Option.map_eq_some_iff.1 h
      simp only [Prod.mk.injEq] at h; omega
  | loop s v x y =>
    simp only [ruleT] at h
    split at h
    · simp only [Option.some.injEq, Prod.mk.injEq] at h; omega
    · obtain ⟨q, _, h⟩ := Option.map_eq_some_iff.1 h
      simp only [Prod.mk.injEq] at h; omega
theorem T_simpI : TT 69 = some (Tryd.f69, bodyOf Tryd.f69) := by kernel_rfl
theorem opt_simpI : opt 69 = LS := rfl
/-- The state of the loop over the parts: as: the parts; bs: what is left of those done; cs: the counts. -/
structure SS (kb : Nat) (s v : List UInt8) (ex : Bool) (zs bs cs : List AV) (e : Nat → AV) (σ : Sto) (nx : Nat) : Prop where
  e1 : e 1 = .w 0 0 7
  e5 : e 5 = .r kb 0
  e23 : e 23 = .s ex zs.length zs
  e24 : e 24 = N zs.length
  e25 : e 25 = N bs.length
  h0 : σ 0 = some (.row 3 1 7 cs)
  hb : (bs = [] ∧ σ kb = some (.ob 57 [S s, S v, .s true 0 []])) ∨ ∃ kr, bs ≠ [] ∧ σ kb = some (.ob 57 [S s, S v, .w kr 0 bs.length]) ∧ σ kr = some (.row 43 1 bs.length bs) ∧ 0 < kr ∧ kr < nx ∧ kr ≠ kb
  k12 : 12 ≤ kb
  kn : kb < nx
set_option maxHeartbeats 4000000 in
theorem simpI_step {m kb : Nat} {s v : List UInt8} {ex : Bool} {zs bs cs cs' ps pb : List AV} {e : Nat → AV} {σ : Sto} {nx n : Nat} {q : Option (Ex × St)} (h : SS kb s v ex zs bs cs e σ nx) (hd : (zs.drop bs.length).head? = some (.p ps)) (hi : bs.length < zs.length) (hn : zs.length ≤ 100)
    (hps : closedL ps = true) (hpb : closedL pb = true) (hcs : closedL cs = true) (hr : EE 69 [.p ps, lentR 7 3 1 cs] = some (.t [.p pb, .t [.p ps, lentR 7 3 1 cs']]))
    (hq : roundsE (evC II EE (withOpt LS pf) m (bodyL Tryd.f69 1)) (n + 1) ⟨e, σ, nx⟩ = q) :
    ∃ e' σ' nx', roundsE (evC II EE (withOpt LS pf) m (bodyL Tryd.f69 1)) n ⟨e', σ', nx'⟩ = q ∧ SS kb s v ex zs (bs ++ [.p pb]) cs' e' σ' nx' := by
  rw [rounds_rd] at hq
  have hc : ((bs.length : Int) < (zs.length : Int)) := by omega
  have hz : (0 : Int) ≤ (bs.length : Int) := by omega
  have hw : IntKind.i64.wrap ((bs.length : Int) + 1) = ((bs.length + 1 : Nat) : Int) := by rw [wrap64 (by omega) (by omega)]; rfl
  have h1 := h.e1
  have h5 := h.e5
  have h23 := h.e23
  have h24 := h.e24
  have h25 := h.e25
  have k12 := h.k12
  have kn := h.kn
  simp only [bodyL, bodyOf, Tryd.f69, SA, loops, List.nil_append, List.append_nil, List.cons_append, List.getD_cons_zero, List.getD_cons_succ] at hq
  have hwin : 12 ≤ kb ∧ kb < nx + 4 + 12 := ⟨k12, by omega⟩
  have hcall : ∀ key, callOp EE (flR LS pf (nx + 4 + 12)) σ key 69 [.p ps, .w 0 0 7] = some (.p pb, upd σ 0 (some (.row 3 1 7 cs'))) := fun key =>
    call4_L ((flS_lo (by decide)).trans (if_pos rfl)) (callL_pr h.h0 hcs hps hr rfl (fun σ key => by rw [adopt_ptr, if_pos hpb])) (fun i hi _ => upd_ne _ _ _ _ (by omega))
  have kb0 : ¬ (kb = 0) := by omega
  have z0 : ¬ (0 = kb) := by omega
  have kbk : ¬ (kb = nx + 4 + 12 + 36) := by omega
  rcases h.hb with ⟨rfl, hkb⟩ | ⟨kr, hne, hkb, hkr, kr0, krn, krk⟩
  · have hc' : ((0 : Int) < (zs.length : Int)) := by simpa using hc
    have hd' : zs.head? = some (.p ps) := by simpa using hd
    simp only [h1, h5, h23, h24, h25, hc', hd', hkb, hwin, hcall, kb0, z0, lookS, baseS, stS, regS_off, regS_5, withOptS_lo, flS_lo, base_flS, look_flS, st_flS, TMA, Int.toNat_natCast, Nat.mul_one, Nat.zero_add, RR, IA, PA, RA0, RA1, RA2, RA3, RA4, RA5, RA6, RA7, RA8, RA9, RA10, Nat.reduceAdd, Nat.reduceMul, Nat.reduceEqDiff, Nat.reduceLeDiff, Nat.reduceLT, Int.reduceToNat, Int.reduceLT, Int.reduceLE, Int.reduceEq, Int.reduceNeg, Int.reduceAdd, Int.reduceSub, Int.reduceMul, reduceIte] at hq
    rw [app_s (by decide) rfl rfl rfl (by omega) (by omega) (.inl (by decide))] at hq
    simp only [h1, h5, h23, h24, h25, hc', hd', hkb, hwin, hcall, kb0, z0, kbk, lookS, baseS, stS, regS_off, regS_5, withOptS_lo, flS_lo, base_flS, look_flS, st_flS, TMA, Int.toNat_natCast, Nat.mul_one, Nat.zero_add, RR, IA, PA, RA0, RA1, RA2, RA3, RA4, RA5, RA6, RA7, RA8, RA9, RA10, Nat.reduceAdd, Nat.reduceMul, Nat.reduceEqDiff, Nat.reduceLeDiff, Nat.reduceLT, Int.reduceToNat, Int.reduceLT, Int.reduceLE, Int.reduceEq, Int.reduceNeg, Int.reduceAdd, Int.reduceSub, Int.reduceMul, reduceIte] at hq
    have kz : ¬ (nx + 4 + 12 + 36 = 0) := by omega
    have zk : ¬ (0 = nx + 4 + 12 + 36) := by omega
    have kk : ¬ (nx + 4 + 12 + 36 = kb) := by omega
    refine ⟨_, _, _, hq, h1, h5, h23, h24, rfl, ?_, .inr ⟨nx + 4 + 12 + 36, by simp, ?_, ?_, by omega, by omega, kk⟩, k12, by omega⟩
    · simp only [upd, z0, zk, if_true, if_false]
    · simp only [upd, if_true]; rfl
    · simp only [upd, kk, if_true, if_false]; rfl
  · have kr0' : ¬ (kr = 0) := by omega
    have kbr : ¬ (kb = kr) := fun e => krk e.symm
    have hlen : (bs ++ [AV.p pb]).length = bs.length + 1 := by simp
    simp only [h1, h5, h23, h24, h25, hc, hz, hd, hkb, hwin, hcall, kb0, z0, kbk, kbr, lookS, baseS, stS, regS_off, regS_5, withOptS_lo, flS_lo, base_flS, look_flS, st_flS, TMA, Int.toNat_natCast, Nat.mul_one, Nat.zero_add, RR, IA, PA, RA0, RA1, RA2, RA3, RA4, RA5, RA6, RA7, RA8, RA9, RA10, Nat.reduceAdd, Nat.reduceMul, Nat.reduceEqDiff, Nat.reduceLeDiff, Nat.reduceLT, Int.reduceToNat, Int.reduceLT, Int.reduceLE, Int.reduceEq, Int.reduceNeg, Int.reduceAdd, Int.reduceSub, Int.reduceMul, reduceIte] at hq
    rw [app_w (by rw [upd_ne _ _ _ _ kr0', hkr]) (by decide) rfl rfl (by omega) (by omega) (by omega) (by omega)] at hq
    simp only [h1, h5, h23, h24, h25, hc, hz, hd, hkb, hwin, hcall, kb0, z0, kbk, kbr, hw, lookS, baseS, stS, regS_off, regS_5, withOptS_lo, flS_lo, base_flS, look_flS, st_flS, TMA, Int.toNat_natCast, Nat.mul_one, Nat.zero_add, RR, IA, PA, RA0, RA1, RA2, RA3, RA4, RA5, RA6, RA7, RA8, RA9, RA10, Nat.reduceAdd, Nat.reduceMul, Nat.reduceEqDiff, Nat.reduceLeDiff, Nat.reduceLT, Int.reduceToNat, Int.reduceLT, Int.reduceLE, Int.reduceEq, Int.reduceNeg, Int.reduceAdd, Int.reduceSub, Int.reduceMul, reduceIte] at hq
    have kz : ¬ (nx + 4 + 12 + 36 = 0) := by omega
    have zk : ¬ (0 = nx + 4 + 12 + 36) := by omega
    have zr : ¬ (0 = kr) := by omega
    have kk : ¬ (nx + 4 + 12 + 36 = kb) := by omega
    refine ⟨_, _, _, hq, h1, h5, h23, h24, by rw [hlen]; rfl, ?_, .inr ⟨nx + 4 + 12 + 36, by simp, ?_, ?_, by omega, by omega, kk⟩, k12, by omega⟩
    · simp only [upd, z0, zk, zr, if_true, if_false]
    · simp only [upd, if_true, hlen]
    · simp only [upd, kk, if_true, if_false, hlen]
/-- The parts, what is left of them, the counts before and after. -/
inductive PR : List AV → List AV → List AV → List AV → Prop
  | nil (cs : List AV) : PR [] [] cs cs
  | cons {ps pb zs bs cs c1 cs' : List AV} (hr : EE 69 [.p ps, lentR 7 3 1 cs] = some (.t [.p pb, .t [.p ps, lentR 7 3 1 c1]])) (hp : closedL ps = true) (hb : closedL pb = true) (hc : closedL cs = true) (k : PR zs bs c1 cs') : PR (.p ps :: zs) (.p pb :: bs) cs cs'
theorem PR.len {zs bs cs cs' : List AV} (h : PR zs bs cs cs') : bs.length = zs.length := by
  induction h with
  | nil => rfl
  | cons _ _ _ _ _ ih => simp only [List.length_cons, ih]
set_option maxHeartbeats 4000000 in
theorem simpI_inner {m kb : Nat} {s v : List UInt8} {ex : Bool} {zs : List AV} (hn : zs.length ≤ 100) {todo bs' cs cs' : List AV} (hp : PR todo bs' cs cs') : ∀ (bs : List AV) (e : Nat → AV) (σ : Sto) (nx n : Nat) (q : Option (Ex × St)), SS kb s v ex zs bs cs e σ nx → zs.drop bs.length = todo → bs.length ≤ zs.length → todo.length < n →
    roundsE (evC II EE (withOpt LS pf) m (bodyL Tryd.f69 1)) n ⟨e, σ, nx⟩ = q → ∃ s', q = some (.exit 2, s') ∧ SS kb s v ex zs (bs ++ bs') cs' s'.e s'.σ s'.nx := by
  induction hp with
  | nil cs =>
    intro bs e σ nx n q h ht hle hl hq
    obtain ⟨n, rfl⟩ : ∃ k, n = k + 1 := ⟨n - 1, by simp only [List.length_nil] at hl; omega⟩
    have hge : bs.length = zs.length := by
      have := congrArg List.length ht
      simp only [List.length_drop, List.length_nil] at this
      omega
    rw [rounds_rd] at hq
    have hc : ¬ ((bs.length : Int) < (zs.length : Int)) := by omega
    have h24 := h.e24
    have h25 := h.e25
    simp only [bodyL, bodyOf, Tryd.f69, SA, loops, List.nil_append, List.append_nil, List.cons_append, List.getD_cons_zero, List.getD_cons_succ] at hq
    simp only [h24, h25, hc, lookS, baseS, stS, regS_off, regS_5, withOptS_lo, flS_lo, base_flS, look_flS, st_flS, TMA, Int.toNat_natCast, Nat.mul_one, Nat.zero_add, RR, IA, PA, RA0, RA1, RA2, RA3, RA4, RA5, RA6, RA7, RA8, RA9, RA10, Nat.reduceAdd, Nat.reduceMul, Nat.reduceEqDiff, Nat.reduceLeDiff, Nat.reduceLT, Int.reduceToNat, Int.reduceLT, Int.reduceLE, Int.reduceEq, Int.reduceNeg, Int.reduceAdd, Int.reduceSub, Int.reduceMul, reduceIte] at hq
    refine ⟨_, hq.symm, ?_⟩
    rw [List.append_nil]
    exact ⟨h.e1, h.e5, h.e23, h.e24, h.e25, h.h0, by
      rcases h.hb with x | ⟨kr, x1, x2, x3, x4, x5, x6⟩
      · exact .inl x
      · exact .inr ⟨kr, x1, x2, x3, x4, by show kr < nx + 4; omega, x6⟩, h.k12, by have := h.kn; show kb < nx + 4; omega⟩
  | cons hr hp hb hc k ih =>
    rename_i ps pb todo bs1 cs c1 cs'
    intro bs e σ nx n q h ht hle hl hq
    obtain ⟨n, rfl⟩ : ∃ k, n = k + 1 := ⟨n - 1, by simp only [List.length_cons] at hl; omega⟩
    have hlt : bs.length < zs.length := by
      have := congrArg List.length ht
      simp only [List.length_drop, List.length_cons] at this
      omega
    obtain ⟨e', σ', nx', hq', h'⟩ := simpI_step h (by rw [ht]; rfl) hlt hn hp hb hc hr hq
    obtain ⟨s', g1, g2⟩ := ih (bs ++ [.p pb]) e' σ' nx' n q h' (by
      rw [List.length_append, ← List.drop_drop, ht]
      rfl) (by rw [List.length_append]; exact hlt) (by simp only [List.length_cons] at hl; omega) hq'
    exact ⟨s', g1, by rw [List.append_assoc] at g2; exact g2⟩
/-- The rule called of what the loop has made. -/
theorem rule_call {pf' : FuncId → Nat} {σ : Sto} {k : Nat} {d r : AV} {is : List Nat} {o : Option (Nat × T)} (hp : pf' 74 = 0) (hd : deep σ 8 (.r k 0) = some (d, is)) (hi : 0 ∉ is) (hr : EE 74 [d] = some r) (hR : RuleR r o) :
    ∃ σ', (∀ key, callOp EE pf' σ key 74 [.r k 0] = some (r, σ')) ∧ (o = none → σ' = σ) ∧ σ' 0 = σ 0 := by
  have h2 : deepC (deep σ 8) [.r k 0] = some ([d], is) := by
    simp only [deepC, hd, Option.bind_some, Option.map_some, List.append_nil]
  have hc : ∀ key, callOp EE pf' σ key 74 [.r k 0] = if is = [] ∨ flat r = true then adopt σ key r else adopt (frz σ 8 is) key r := fun key => by
    unfold callOp
    rw [if_neg (by omega), if_neg (by omega), if_neg (by omega), h2]
    simp only [Option.bind_some, hr]
  cases o with
  | none =>
    cases (show r = .t [N 0, nilP] from hR)
    refine ⟨σ, fun key => ?_, fun _ => rfl, rfl⟩
    rw [hc, if_pos (.inr rfl)]
    exact adopt_rn _ _ _ rfl
  | some q =>
    obtain ⟨k, u⟩ := q
    obtain ⟨b, rfl, hb⟩ := hR
    by_cases h0 : is = []
    · refine ⟨σ, fun key => ?_, fun _ => rfl, rfl⟩
      rw [hc, if_pos (.inl h0)]
      exact adopt_rn _ _ _ hb.closed
    · refine ⟨frz σ 8 is, fun key => ?_, (fun e => by cases e), ?_⟩
      · rw [hc, if_neg (by
          intro h
          rcases h with h | h
          · exact h0 h
          · cases hb <;> cases h)]
        exact adopt_rn _ _ _ hb.closed
      · unfold frz
        rw [if_neg hi]
/-- A term's cells as they stand in the loop's object. -/
theorem SS.deep {kb : Nat} {s v : List UInt8} {ex : Bool} {zs bs cs : List AV} {e : Nat → AV} {σ : Sto} {nx : Nat} (h : SS kb s v ex zs bs cs e σ nx) (hb : closedL bs = true) : ∃ ex' is, Ev.deep σ 8 (.r kb 0) = some (.p [S s, S v, .s ex' bs.length bs], is) ∧ 0 ∉ is := by
  rcases h.hb with ⟨rfl, hk⟩ | ⟨kr, hne, hk, hr, r0, rn, rk⟩
  · refine ⟨true, [kb], ?_, ?_⟩
    · rw [deep_obX 7 hk]
      rfl
    · have := h.k12
      simp only [List.mem_cons, List.not_mem_nil, or_false]
      omega
  · refine ⟨false, [kb, kr], ?_, ?_⟩
    · rw [deep_obX 7 hk]
      have h1 : Ev.deep σ 7 (.w kr 0 bs.length) = some (.s false bs.length bs, [kr]) := by
        rw [deep_w 6 hr (by omega) hb, List.drop_zero, List.take_of_length_le (by omega)]
      have h2 : deepC (Ev.deep σ 7) [S s, S v, .w kr 0 bs.length] = some ([S s, S v, .s false bs.length bs], [kr]) := by
        have q1 : Ev.deep σ 7 (S s) = some (S s, []) := rfl
        have q2 : Ev.deep σ 7 (S v) = some (S v, []) := rfl
        simp only [deepC, q1, q2, h1, Option.bind_some, Option.map_some, List.append_nil, List.nil_append]
      rw [h2]
      rfl
    · have := h.k12
      simp only [List.mem_cons, List.not_mem_nil, or_false]
      omega
theorem ints_set {c : List Int} {k : Nat} {x : Int} (hx : c[k]? = some x) : (ints c).take k ++ [N (IntKind.i64.wrap (x + 1))] ++ (ints c).drop (k + 1) = ints (incC k c) := by
  have hk : k < c.length := (List.getElem?_eq_some_iff.1 hx).1
  unfold incC
  rw [hx]
  simp only
  rw [List.set_eq_take_append_cons_drop, if_pos hk]
  simp only [ints, List.map_append, List.map_cons, List.map_take, List.map_drop, List.append_assoc, List.cons_append, List.nil_append]
theorem bxS {pf : FuncId → Nat} {σ : Sto} {key : Nat} (ls : List AV) : bxK (withOpt LS pf) σ key 57 ls = if ls.all leafOk = true then some (.r key 0, upd σ key (some (.ob 57 ls))) else none := bxK_r (by rw [with_hi (by decide), if_neg (by decide)]) ls
set_option maxHeartbeats 4000000 in
theorem simpI_round {m : Nat} {s v : List UInt8} {ex : Bool} {zs bs : List AV} {c c' : List Int} {e : Nat → AV} {σ : Sto} {nx n : Nat} {q : Option (Ex × St)} {o : Option (Nat × T)}
    (h0 : e 0 = .p [S s, S v, .s ex zs.length zs]) (h1 : e 1 = .w 0 0 7) (hσ : σ 0 = some (.row 3 1 7 (ints c))) (hp : PR zs bs (ints c) (ints c')) (hlen : zs.length ≤ 100) (hm : zs.length < m) (hbs : closedL bs = true) (hc7 : c'.length = 7)
    (hrule : ∀ ex', ∃ r, EE 74 [.p [S s, S v, .s ex' bs.length bs]] = some r ∧ RuleR r o) (ho : ∀ k u, o = some (k, u) → 0 < k ∧ k ≤ 6)
    (hq : roundsE (evC II EE (withOpt LS pf) m (bodyL Tryd.f69 0)) (n + 1) ⟨e, σ, nx⟩ = q) :
    (o = none → ∃ s' kb ex' is, q = some (.ret, s') ∧ s'.e 4 = .r kb 0 ∧ Ev.deep s'.σ 8 (.r kb 0) = some (.p [S s, S v, .s ex' bs.length bs], is) ∧ 0 ∉ is ∧ s'.σ 0 = some (.row 3 1 7 (ints c'))) ∧
    (∀ k u, o = some (k, u) → ∃ b e' σ' nx', IsP b u ∧ e' 0 = b ∧ e' 1 = .w 0 0 7 ∧ σ' 0 = some (.row 3 1 7 (ints (incC k c'))) ∧ roundsE (evC II EE (withOpt LS pf) m (bodyL Tryd.f69 0)) n ⟨e', σ', nx'⟩ = q) := by
  rw [rounds_rd] at hq
  simp only [bodyL, bodyOf, Tryd.f69, SA, loops, List.nil_append, List.append_nil, List.cons_append, List.getD_cons_zero, List.getD_cons_succ] at hq
  simp only [h0, h1, hσ, bxS, lookS, baseS, stS, regS_off, regS_5, withOptS_lo, flS_lo, base_flS, look_flS, st_flS, TMA, Int.toNat_natCast, Nat.mul_one, Nat.zero_add, RR, IA, PA, RA0, RA1, RA2, RA3, RA4, RA5, RA6, RA7, RA8, RA9, RA10, Nat.reduceAdd, Nat.reduceMul, Nat.reduceEqDiff, Nat.reduceLeDiff, Nat.reduceLT, Int.reduceToNat, Int.reduceLT, Int.reduceLE, Int.reduceEq, Int.reduceNeg, Int.reduceAdd, Int.reduceSub, Int.reduceMul, reduceIte] at hq
  generalize hqq : roundsE _ m _ = q2 at hq
  have zk : ¬ (0 = nx + 36) := by omega
  have hin := fun H => simpI_inner (kb := nx + 36) (s := s) (v := v) (ex := ex) hlen hp [] _ _ _ m _ H rfl (Nat.zero_le _) hm hqq
  obtain ⟨⟨e', σ', nx'⟩, rfl, hs⟩ := hin ⟨h1, rfl, rfl, rfl, rfl, by simp only [upd, zk, if_false]; exact hσ, .inl ⟨rfl, by simp only [upd, if_true]⟩, by omega, by omega⟩
  simp only at hs
  rw [List.nil_append] at hs
  obtain ⟨ex', is, hdp, hnis⟩ := hs.deep hbs
  obtain ⟨r, hr1, hr2⟩ := hrule ex'
  obtain ⟨σ2, hcall, hsame, hs0⟩ := rule_call (pf' := withOpt LS pf) rfl hdp hnis hr1 hr2
  have h1' := hs.e1
  have h5' := hs.e5
  have hσ2 : σ2 0 = some (.row 3 1 7 (ints c')) := hs0.trans hs.h0
  cases o with
  | none =>
    obtain rfl := hsame rfl
    cases (show r = .t [N 0, nilP] from hr2)
    simp only [h1', h5', hcall, lookS, baseS, stS, regS_off, regS_5, withOptS_lo, flS_lo, base_flS, look_flS, st_flS, TMA, Int.toNat_natCast, Nat.mul_one, Nat.zero_add, RR, IA, PA, RA0, RA1, RA2, RA3, RA4, RA5, RA6, RA7, RA8, RA9, RA10, Nat.reduceAdd, Nat.reduceMul, Nat.reduceEqDiff, Nat.reduceLeDiff, Nat.reduceLT, Int.reduceToNat, Int.reduceLT, Int.reduceLE, Int.reduceEq, Int.reduceNeg, Int.reduceAdd, Int.reduceSub, Int.reduceMul, reduceIte] at hq
    refine ⟨fun _ => ⟨_, _, ex', is, hq.symm, rfl, hdp, hnis, hσ2⟩, fun k u h => by cases h⟩
  | some p =>
    obtain ⟨k, u⟩ := p
    obtain ⟨b, rfl, hb⟩ := hr2
    obtain ⟨k0, k6⟩ := ho k u rfl
    refine ⟨fun h => (by cases h), fun k' u' h => ?_⟩
    cases h
    have kn0 : ¬ ((k : Int) = 0) := by omega
    have kz : (0 : Int) ≤ (k : Int) := by omega
    have k7 : (k : Int) < ((7 : Nat) : Int) := by omega
    have k1 : k + 1 ≤ c'.length := by omega
    obtain ⟨x, hx⟩ : ∃ x, c'[k]? = some x := ⟨c'[k]'(by omega), List.getElem?_eq_getElem (by omega)⟩
    have hhd : ((ints c').drop k).head? = some (N x) := by
      rw [List.head?_drop, ints_get, hx]
      rfl
    simp only [h1', h5', hcall, hσ2, kn0, kz, k7, k1, hhd, lookS, baseS, stS, regS_off, regS_5, withOptS_lo, flS_lo, base_flS, look_flS, st_flS, TMA, Int.toNat_natCast, Nat.mul_one, Nat.zero_add, RR, IA, PA, RA0, RA1, RA2, RA3, RA4, RA5, RA6, RA7, RA8, RA9, RA10, Nat.reduceAdd, Nat.reduceMul, Nat.reduceEqDiff, Nat.reduceLeDiff, Nat.reduceLT, Int.reduceToNat, Int.reduceLT, Int.reduceLE, Int.reduceEq, Int.reduceNeg, Int.reduceAdd, Int.reduceSub, Int.reduceMul, reduceIte] at hq
    refine ⟨b, _, _, _, hb, ?_, ?_, ?_, hq⟩
    · rfl
    · exact h1'
    · simp only [upd, if_true]
      rw [← ints_set hx]
theorem IsP.p {a : AV} {t : T} (h : IsP a t) : ∃ ps, a = .p ps ∧ closedL ps = true := by
  have hc := h.closed
  cases h <;> exact ⟨_, rfl, hc⟩
/-- What a term is simplified to, with the counts. -/
def SimpI (n : Nat) : Prop := ∀ (a : AV) (t : T) (c : List Int), IsP a t → WF t → (textT t).length ≤ n → c.length = 7 →
  ∃ b, EE 69 [a, lentR 7 3 1 (ints c)] = some (.t [b, .t [a, lentR 7 3 1 (ints (simpF n (t, c)).2)]]) ∧ IsP b (simpF n (t, c)).1
def LoopI (n : Nat) : Prop := ∀ (a : AV) (t : T) (c : List Int) (e : Nat → AV) (σ : Sto) (nx r : Nat), IsP a t → WF t → (textT t).length ≤ n → c.length = 7 → e 0 = a → e 1 = .w 0 0 7 → σ 0 = some (.row 3 1 7 (ints c)) → n < r →
  ∃ s' kb bs is, roundsE (evC II EE (withOpt LS pf) 100 (bodyL Tryd.f69 0)) r ⟨e, σ, nx⟩ = some (.ret, s') ∧ s'.e 4 = .r kb 0 ∧ Ev.deep s'.σ 8 (.r kb 0) = some (.p bs, is) ∧ 0 ∉ is ∧ s'.σ 0 = some (.row 3 1 7 (ints (simpF n (t, c)).2)) ∧ IsP (.p bs) (simpF n (t, c)).1
theorem loopI_any {n : Nat} (hn : n + 1 ≤ 1000000) (hL : LoopI n) {t : T} {c : List Int} {s v : List UInt8} {ex : Bool} {zs bs : List AV} {e : Nat → AV} {σ : Sto} {nx r : Nat}
    (hw : WF (partsF (simpF n) t c).1) (hl : (textT (partsF (simpF n) t c).1).length ≤ n + 1) (hc : (partsF (simpF n) t c).2.length = 7) (h0 : e 0 = .p [S s, S v, .s ex zs.length zs]) (h1 : e 1 = .w 0 0 7) (hσ : σ 0 = some (.row 3 1 7 (ints c)))
    (hp : PR zs bs (ints c) (ints (partsF (simpF n) t c).2)) (hlen : zs.length ≤ 2) (hbs : closedL bs = true) (his : ∀ ex', IsP (.p [S s, S v, .s ex' bs.length bs]) (partsF (simpF n) t c).1) (hr : n + 1 < r) :
    ∃ s' kb bs is, roundsE (evC II EE (withOpt LS pf) 100 (bodyL Tryd.f69 0)) r ⟨e, σ, nx⟩ = some (.ret, s') ∧ s'.e 4 = .r kb 0 ∧ Ev.deep s'.σ 8 (.r kb 0) = some (.p bs, is) ∧ 0 ∉ is ∧ s'.σ 0 = some (.row 3 1 7 (ints (simpF (n + 1) (t, c)).2)) ∧ IsP (.p bs) (simpF (n + 1) (t, c)).1 := by
  obtain ⟨r, rfl⟩ : ∃ k, r = k + 1 := ⟨r - 1, by omega⟩
  have hrd := simpI_round (m := 100) (n := r) (q := _) (nx := nx) h0 h1 hσ hp (by omega) (by omega) hbs hc (fun ex' => rule_ev (his ex') hw (by omega)) (fun k u h => ⟨(ruleT_wf hw h).2.2, ruleT_le h⟩) rfl
  simp only [simpF]
  cases ho : ruleT (partsF (simpF n) t c).1 with
  | none =>
    obtain ⟨s', kb, ex', is, q1, q2, q3, q4, q5⟩ := hrd.1 ho
    exact ⟨s', kb, _, is, q1, q2, q3, q4, q5, his ex'⟩
  | some p =>
    obtain ⟨k, u⟩ := p
    obtain ⟨b, e', σ', nx', q1, q2, q3, q4, q5⟩ := hrd.2 k u ho
    obtain ⟨w1, w2, w3⟩ := ruleT_wf hw ho
    rw [← q5]
    exact hL b u _ e' σ' nx' r q1 w1 (by omega) ((incC_len _ _).trans hc) q2 q3 q4 (by omega)
theorem loopI_next {n : Nat} (hn : n + 1 ≤ 1000000) (hL : LoopI n) (hS : SimpI n) : LoopI (n + 1) := by
  intro a t c e σ nx r h hw hl hc h0 h1 hσ hr
  have hfit := partsF_fit (n := n) (f := simpF n) (fun x l hx hlx => simpF_fit n x l hx hlx) hw hl c
  have hle := hfit.le
  have hpart : ∀ {a : AV} {x : T} {c : List Int}, IsP a x → WF x → (textT x).length ≤ n → c.length = 7 → ∃ ps pb, a = .p ps ∧ closedL ps = true ∧ closedL pb = true ∧ EE 69 [.p ps, lentR 7 3 1 (ints c)] = some (.t [.p pb, .t [.p ps, lentR 7 3 1 (ints (simpF n (x, c)).2)]]) ∧ IsP (.p pb) (simpF n (x, c)).1 := by
    intro a x c hx hwx hlx hcx
    obtain ⟨b, k1, k2⟩ := hS a x c hx hwx hlx hcx
    obtain ⟨ps, rfl, p2⟩ := hx.p
    obtain ⟨pb, rfl, p4⟩ := k2.p
    exact ⟨ps, pb, rfl, p2, p4, k1, k2⟩
  cases h with
  | dig ex d => exact loopI_any (zs := []) (bs := []) hn hL hfit.wf (by omega) (hfit.ln.trans hc) h0 h1 hσ (.nil _) (by decide) rfl (fun ex' => .dig ex' d) hr
  | var ex d => exact loopI_any (zs := []) (bs := []) hn hL hfit.wf (by omega) (hfit.ln.trans hc) h0 h1 hσ (.nil _) (by decide) rfl (fun ex' => .var ex' d) hr
  | one ex g hx =>
    simp only [textT, List.length_cons] at hl
    obtain ⟨ps, pb, rfl, p1, p2, p3, p4⟩ := hpart hx hw.2 (by omega) hc
    exact loopI_any (zs := [.p ps]) (bs := [.p pb]) hn hL hfit.wf (by simp only [textT, List.length_cons] at hle; omega) (hfit.ln.trans hc) h0 h1 hσ (.cons p3 p1 p2 (ints_closed _) (.nil _)) (by show 1 ≤ 2; decide) (by simp only [closedL, closed, p2, Bool.and_self]) (fun ex' => .one ex' g p4) hr
  | two ex g hx hy =>
    simp only [textT, List.length_cons, List.length_append, List.length_nil] at hl
    obtain ⟨ps, pb, rfl, p1, p2, p3, p4⟩ := hpart hx hw.2.1 (by omega) hc
    obtain ⟨qs, qb, rfl, q1, q2, q3, q4⟩ := hpart hy hw.2.2 (by omega) ((simpF_fit n _ c hw.2.1 (by omega)).ln.trans hc)
    exact loopI_any (zs := [.p ps, .p qs]) (bs := [.p pb, .p qb]) hn hL hfit.wf (by simp only [textT, List.length_cons, List.length_append, List.length_nil] at hle; omega) (hfit.ln.trans hc) h0 h1 hσ (.cons p3 p1 p2 (ints_closed _) (.cons q3 q1 q2 (ints_closed _) (.nil _))) (Nat.le_refl 2) (by simp only [closedL, closed, p2, q2, Bool.and_self]) (fun ex' => .two ex' g p4 q4) hr
  | loop ex g w hx hy =>
    simp only [textT, List.length_cons, List.length_append, List.length_nil] at hl
    obtain ⟨ps, pb, rfl, p1, p2, p3, p4⟩ := hpart hx hw.2.2.1 (by omega) hc
    obtain ⟨qs, qb, rfl, q1, q2, q3, q4⟩ := hpart hy hw.2.2.2 (by omega) ((simpF_fit n _ c hw.2.2.1 (by omega)).ln.trans hc)
    exact loopI_any (zs := [.p ps, .p qs]) (bs := [.p pb, .p qb]) hn hL hfit.wf (by simp only [textT, List.length_cons, List.length_append, List.length_nil] at hle; omega) (hfit.ln.trans hc) h0 h1 hσ (.cons p3 p1 p2 (ints_closed _) (.cons q3 q1 q2 (ints_closed _) (.nil _))) (Nat.le_refl 2) (by simp only [closedL, closed, p2, q2, Bool.and_self]) (fun ex' => .loop ex' g w p4 q4) hr
set_option maxHeartbeats 4000000 in
theorem simpI_of {n : Nat} (hn : n < 100) (hL : LoopI n) : SimpI n := by
  intro a t c h hw hl hc
  obtain ⟨ps, rfl, hps⟩ := h.p
  have hfit := simpF_fit n t c hw hl
  have hrun := fun e σ nx h0 h1 hσ => hL (.p ps) t c e σ nx 100 h hw hl hc h0 h1 hσ hn
  simp only [bodyL, bodyOf, Tryd.f69, SA, loops, List.nil_append, List.append_nil, List.cons_append, List.getD_cons_zero, List.getD_cons_succ] at hrun
  have hrun2 : ∀ y, ((evC II EE (withOpt (opt 69) pf) 100 (strip (bodyOf Tryd.f69)) ⟨fun t => [.p ps, .w 0 0 7].getD t (.v undef), upd (fun _ => none) 0 (some (.row 3 1 7 (ints c))), 1⟩).bind (outK II Tryd.f69.results.toList [.p ps, .w 0 0 7])) = some y → EE 69 [.p ps, lentR 7 3 1 (ints c)] = some y := fun y h => EE_few_pr 100 T_simpI (by decide) (Nat.le_of_ble_eq_true rfl) h
  rw [opt_simpI] at hrun2
  simp only [bodyOf, Tryd.f69, SA] at hrun2
  simp only [lookS, baseS, stS, regS_off, regS_5, withOptS_lo, flS_lo, base_flS, look_flS, st_flS, TMA, Int.toNat_natCast, Nat.mul_one, Nat.zero_add, RR, IA, PA, RA0, RA1, RA2, RA3, RA4, RA5, RA6, RA7, RA8, RA9, RA10, Nat.reduceAdd, Nat.reduceMul, Nat.reduceEqDiff, Nat.reduceLeDiff, Nat.reduceLT, Int.reduceToNat, Int.reduceLT, Int.reduceLE, Int.reduceEq, Int.reduceNeg, Int.reduceAdd, Int.reduceSub, Int.reduceMul, reduceIte] at hrun2
  generalize hqq : roundsE _ 100 _ = q2 at hrun2
  have hk : ∃ s' kb bs is, q2 = some (.ret, s') ∧ s'.e 4 = .r kb 0 ∧ Ev.deep s'.σ 8 (.r kb 0) = some (.p bs, is) ∧ 0 ∉ is ∧ s'.σ 0 = some (.row 3 1 7 (ints (simpF n (t, c)).2)) ∧ IsP (.p bs) (simpF n (t, c)).1 := by
    rw [← hqq]
    exact hrun _ _ _ rfl rfl (by simp only [upd, if_true])
  obtain ⟨⟨e', σ', nx'⟩, kb, bs, is, rfl, g2, g3, g4, g5, g6⟩ := hk
  refine ⟨.p bs, hrun2 _ ?_, g6⟩
  change outK II [ResultVar.tmp 4] _ (.ret, ⟨e', σ', nx'⟩) = _
  refine out_pr (bs := bs) (k := kb) ?_ g3 g4 g5 (ints_closed _) hps
  simp only at g2
  simp only [g2, lookS, baseS, stS, regS_off, regS_5, withOptS_lo, flS_lo, base_flS, look_flS, st_flS, TMA, Int.toNat_natCast, Nat.mul_one, Nat.zero_add, RR, IA, PA, RA0, RA1, RA2, RA3, RA4, RA5, RA6, RA7, RA8, RA9, RA10, Nat.reduceAdd, Nat.reduceMul, Nat.reduceEqDiff, Nat.reduceLeDiff, Nat.reduceLT, Int.reduceToNat, Int.reduceLT, Int.reduceLE, Int.reduceEq, Int.reduceNeg, Int.reduceAdd, Int.reduceSub, Int.reduceMul, reduceIte]
theorem simpI_all : ∀ n, n < 100 → LoopI n ∧ SimpI n
  | 0, h => by
    have hL : LoopI 0 := by
      intro a t c e σ nx r _ _ hl
      have := text_pos t
      omega
    exact ⟨hL, simpI_of h hL⟩
  | n + 1, h => by
    obtain ⟨h1, h2⟩ := simpI_all n (by omega)
    have hL := loopI_next (by omega) h1 h2
    exact ⟨hL, simpI_of h hL⟩
end
end Go.Proofs.YtegbkihgnofkfaaDoor.Ev
