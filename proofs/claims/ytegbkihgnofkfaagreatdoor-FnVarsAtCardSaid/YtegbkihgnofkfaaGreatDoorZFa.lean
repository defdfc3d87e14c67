/-
Texts Fa to Fa of the work.
-/
import Derived.Test.YtegbkihgnofkfaaGreatDoorZEa
import Derived.Test.YtegbkihgnofkfaaGreatDoorZVw
/-
Drawn laws: variables of a loop: what is drawn.
-/
namespace Go.Proofs.YtegbkihgnofkfaaGreatDoor.Ev
section
set_option linter.unusedVariables false
set_option linter.unusedSimpArgs false
open Go Go.RowKit
set_option linter.unusedVariables false
set_option linter.unusedSimpArgs false
theorem T_drawVars : TT 4 = some (Tryz.f4, bodyOf Tryz.f4) := by kernel_rfl
/-- A list of texts as it stands there: a slice or a row. -/
def ListAt (σ : Sto) (sl : AV) (L : List (List UInt8)) : Prop := (∃ ex, sl = .s ex L.length (strs L)) ∨ ∃ id, sl = .w id 0 L.length ∧ σ id = some (.row 9 1 L.length (strs L))
theorem draw_loop {l s : List UInt8} {L : List (List UInt8)} {id : Nat} {sl : AV} (hl : l.length ≤ 2000) (hn : L.length ≤ 1000) : ∀ (r : List (List UInt8)) (i p : Nat) (e : Nat → AV) (σ : Sto) (nx n : Nat) (q : Option (Ex × St)),
    L.drop i = r → σ id = some (.ob 48 (srcC l p)) → p + r.length ≤ 900000 → e 4 = .r id 0 → e 5 = S s → e 6 = sl → e 15 = sl → e 16 = N L.length → e 17 = N i → ListAt σ sl L → r.length < n →
    roundsE (evC II EE (withOpt [] pf) MX (bodyL Tryz.f4 0)) n ⟨e, σ, nx⟩ = q →
    (∃ (st : St) (k : Nat), q = some (.ret, st) ∧ st.e 2 = S s ∧ st.e 3 = N k ∧ k < 1000) ∨
    (∃ e' σ' nx' p', q = some (.exit 0, ⟨e', σ', nx'⟩) ∧ e' 4 = .r id 0 ∧ e' 5 = S s ∧ e' 6 = sl ∧ σ' id = some (.ob 48 (srcC l p')) ∧ p' ≤ p + r.length ∧ ListAt σ' sl L)
  | [], i, p, e, σ, nx, n, q, hr, hσ, hp, h4, h5, h6, h15, h16, h17, hsl, hnn, hq => by
    obtain ⟨n, rfl⟩ : ∃ k, n = k + 1 := ⟨n - 1, by simp only [List.length_nil] at hnn; omega⟩
    rw [rounds_rd] at hq
    have hge : L.length ≤ i := by
      have := congrArg List.length hr
      simp only [List.length_drop, List.length_nil] at this
      omega
    have hc : ¬ ((i : Int) < (L.length : Int)) := by omega
    simp only [bodyL, bodyOf, Tryz.f4, SA, loops, List.nil_append, List.append_nil, List.cons_append, List.getD_cons_zero, List.getD_cons_succ] at hq
    simp only [h16, h17, hc, RR, IA, PA, RA0, RA1, RA2, RA3, RA4, RA5, RA6, RA7, RA8, RA9, RA10, Nat.reduceAdd, Nat.reduceMul, Nat.reduceEqDiff, Nat.reduceLeDiff, Nat.reduceLT, Int.reduceToNat, Int.reduceLT, Int.reduceLE, Int.reduceEq, Int.reduceNeg, Int.reduceAdd, Int.reduceSub, Int.reduceMul, reduceIte] at hq
    exact .inr ⟨_, _, _, p, hq.symm, h4, h5, h6, hσ, Nat.le_add_right _ _, hsl⟩
  | x :: r, i, p, e, σ, nx, n, q, hr, hσ, hp, h4, h5, h6, h15, h16, h17, hsl, hnn, hq => by
    obtain ⟨n, rfl⟩ : ∃ k, n = k + 1 := ⟨n - 1, by simp only [List.length_cons] at hnn; omega⟩
    rw [rounds_rd] at hq
    simp only [List.length_cons] at hp hnn
    have hlt : i < L.length := by
      have := congrArg List.length hr
      simp only [List.length_drop, List.length_cons] at this
      omega
    have hc : ((i : Int) < (L.length : Int)) := by omega
    have hz : (0 : Int) ≤ (i : Int) := by omega
    have hw : IntKind.i64.wrap ((i : Int) + 1) = ((i + 1 : Nat) : Int) := by rw [wrap64 (by omega) (by omega)]; rfl
    have hd : ((strs L).drop i).head? = some (S x) := by
      rw [strs_drop, hr]
      rfl
    have hll : (strs L).length = L.length := strs_len L
    have hr2 : L.drop (i + 1) = r := by rw [← List.drop_drop, hr]; rfl
    have hk := l7Kind_ev x
    obtain ⟨v, v0, v1, hv⟩ := pick_ev l hl p (by omega) 2 (by decide)
    simp only [bodyL, bodyOf, Tryz.f4, SA, loops, List.nil_append, List.append_nil, List.cons_append, List.getD_cons_zero, List.getD_cons_succ] at hq
    have go : ∀ (e2 : Nat → AV) (σ2 : Sto) (nx2 p2 : Nat), roundsE (evC II EE (withOpt [] pf) MX (bodyL Tryz.f4 0)) n ⟨e2, σ2, nx2⟩ = q → σ2 id = some (.ob 48 (srcC l p2)) → p2 ≤ p + 1 → e2 4 = .r id 0 → e2 5 = S s → e2 6 = sl → e2 15 = sl → e2 16 = N L.length → e2 17 = N ((i + 1 : Nat) : Int) → ListAt σ2 sl L →
        (∃ (st : St) (k : Nat), q = some (.ret, st) ∧ st.e 2 = S s ∧ st.e 3 = N k ∧ k < 1000) ∨ (∃ e' σ' nx' p', q = some (.exit 0, ⟨e', σ', nx'⟩) ∧ e' 4 = .r id 0 ∧ e' 5 = S s ∧ e' 6 = sl ∧ σ' id = some (.ob 48 (srcC l p')) ∧ p' ≤ p + (r.length + 1) ∧ ListAt σ' sl L) := by
      intro e2 σ2 nx2 p2 g1 g2 g3 g4 g5 g6 g7 g8 g9 g10
      rcases draw_loop hl hn r (i + 1) p2 e2 σ2 nx2 n q hr2 g2 (by omega) g4 g5 g6 g7 g8 g9 g10 (by omega) g1 with h | ⟨e', σ', nx', p', k1, k2, k3, k4, k5, k6, k7⟩
      · exact .inl h
      · exact .inr ⟨e', σ', nx', p', k1, k2, k3, k4, k5, by omega, k7⟩
    have hls := hsl
    rcases hls with ⟨ex, rfl⟩ | ⟨iid, rfl, hrow⟩
    · by_cases h91 : ((kindM x).toNat : Int) = 91
      · simp only [h4, h5, h6, h15, h16, h17, hc, hz, hw, hd, hll, hk, h91, Int.toNat_natCast, Nat.mul_one, Nat.zero_add, RR, IA, PA, RA0, RA1, RA2, RA3, RA4, RA5, RA6, RA7, RA8, RA9, RA10, Nat.reduceAdd, Nat.reduceMul, Nat.reduceEqDiff, Nat.reduceLeDiff, Nat.reduceLT, Int.reduceToNat, Int.reduceLT, Int.reduceLE, Int.reduceEq, Int.reduceNeg, Int.reduceAdd, Int.reduceSub, Int.reduceMul, reduceIte] at hq
        rw [pick_call (withOpt_nil_lo (by decide)) hσ hv] at hq
        by_cases hv0 : v = 0
        · simp only [h5, hv0, RR, IA, PA, RA0, RA1, RA2, RA3, RA4, RA5, RA6, RA7, RA8, RA9, RA10, Nat.reduceAdd, Nat.reduceMul, Nat.reduceEqDiff, Nat.reduceLeDiff, Nat.reduceLT, Int.reduceToNat, Int.reduceLT, Int.reduceLE, Int.reduceEq, Int.reduceNeg, Int.reduceAdd, Int.reduceSub, Int.reduceMul, reduceIte] at hq
          exact .inl ⟨_, i, hq.symm, rfl, rfl, by omega⟩
        · simp only [h17, hw, hv0, RR, IA, PA, RA0, RA1, RA2, RA3, RA4, RA5, RA6, RA7, RA8, RA9, RA10, Nat.reduceAdd, Nat.reduceMul, Nat.reduceEqDiff, Nat.reduceLeDiff, Nat.reduceLT, Int.reduceToNat, Int.reduceLT, Int.reduceLE, Int.reduceEq, Int.reduceNeg, Int.reduceAdd, Int.reduceSub, Int.reduceMul, reduceIte] at hq
          exact go _ _ _ (p + 1) hq (by simp only [upd, if_true]) (by omega) h4 h5 h6 h15 h16 rfl (.inl ⟨ex, rfl⟩)
      · simp only [h4, h5, h6, h15, h16, h17, hc, hz, hw, hd, hll, hk, h91, Int.toNat_natCast, Nat.mul_one, Nat.zero_add, RR, IA, PA, RA0, RA1, RA2, RA3, RA4, RA5, RA6, RA7, RA8, RA9, RA10, Nat.reduceAdd, Nat.reduceMul, Nat.reduceEqDiff, Nat.reduceLeDiff, Nat.reduceLT, Int.reduceToNat, Int.reduceLT, Int.reduceLE, Int.reduceEq, Int.reduceNeg, Int.reduceAdd, Int.reduceSub, Int.reduceMul, reduceIte] at hq
        exact go _ _ _ p hq hσ (by omega) h4 h5 h6 h15 h16 rfl (.inl ⟨ex, rfl⟩)
    · have hne : ¬ (iid = id) := fun e => by rw [e, hσ] at hrow; cases hrow
      by_cases h91 : ((kindM x).toNat : Int) = 91
      · simp only [h4, h5, h6, h15, h16, h17, hc, hz, hw, hd, hll, hk, h91, hrow, Int.toNat_natCast, Nat.mul_one, Nat.zero_add, RR, IA, PA, RA0, RA1, RA2, RA3, RA4, RA5, RA6, RA7, RA8, RA9, RA10, Nat.reduceAdd, Nat.reduceMul, Nat.reduceEqDiff, Nat.reduceLeDiff, Nat.reduceLT, Int.reduceToNat, Int.reduceLT, Int.reduceLE, Int.reduceEq, Int.reduceNeg, Int.reduceAdd, Int.reduceSub, Int.reduceMul, reduceIte] at hq
        rw [pick_call (withOpt_nil_lo (by decide)) hσ hv] at hq
        by_cases hv0 : v = 0
        · simp only [h5, hv0, RR, IA, PA, RA0, RA1, RA2, RA3, RA4, RA5, RA6, RA7, RA8, RA9, RA10, Nat.reduceAdd, Nat.reduceMul, Nat.reduceEqDiff, Nat.reduceLeDiff, Nat.reduceLT, Int.reduceToNat, Int.reduceLT, Int.reduceLE, Int.reduceEq, Int.reduceNeg, Int.reduceAdd, Int.reduceSub, Int.reduceMul, reduceIte] at hq
          exact .inl ⟨_, i, hq.symm, rfl, rfl, by omega⟩
        · simp only [h17, hw, hv0, RR, IA, PA, RA0, RA1, RA2, RA3, RA4, RA5, RA6, RA7, RA8, RA9, RA10, Nat.reduceAdd, Nat.reduceMul, Nat.reduceEqDiff, Nat.reduceLeDiff, Nat.reduceLT, Int.reduceToNat, Int.reduceLT, Int.reduceLE, Int.reduceEq, Int.reduceNeg, Int.reduceAdd, Int.reduceSub, Int.reduceMul, reduceIte] at hq
          exact go _ _ _ (p + 1) hq (by simp only [upd, if_true]) (by omega) h4 h5 h6 h15 h16 rfl (.inr ⟨iid, rfl, by simp only [upd, hne, if_false]; exact hrow⟩)
      · simp only [h4, h5, h6, h15, h16, h17, hc, hz, hw, hd, hll, hk, h91, hrow, Int.toNat_natCast, Nat.mul_one, Nat.zero_add, RR, IA, PA, RA0, RA1, RA2, RA3, RA4, RA5, RA6, RA7, RA8, RA9, RA10, Nat.reduceAdd, Nat.reduceMul, Nat.reduceEqDiff, Nat.reduceLeDiff, Nat.reduceLT, Int.reduceToNat, Int.reduceLT, Int.reduceLE, Int.reduceEq, Int.reduceNeg, Int.reduceAdd, Int.reduceSub, Int.reduceMul, reduceIte] at hq
        exact go _ _ _ p hq hσ (by omega) h4 h5 h6 h15 h16 rfl (.inr ⟨iid, rfl, hrow⟩)
theorem bs6n (σ : Sto) (n : Int) : bsK σ 6 [(0, N 0), (1, N 1), (2, N 2), (3, N (-1)), (4, N n), (5, N 9223372036854775807)] (some ⟨.int .i64, 1, 8, [.int .i64 0]⟩) = some (.s true 6 (ints [0, 1, 2, -1, n, 9223372036854775807]), σ) := rfl
theorem num_callV {σ : Sto} {l : List UInt8} {p id : Nat} {L : List Int} {s : Int} {n : Nat} (hn : n = L.length) (hσ : σ id = some (.ob 48 (srcC l p))) (h : EE 14 [srcL l p, .s true L.length (ints L)] = some (.t [N s, .t [srcL l (p + 1), .s true L.length (ints L)]])) (key : Nat) :
    callOp EE (withOpt [] pf) σ key 14 [.r id 0, .s true n (ints L)] = some (N s, upd σ id (some (.ob 48 (srcC l (p + 1))))) := by
  subst hn
  exact call_ob_v (withOpt_nil_lo (by decide)) hσ (src_cl l p) (by simp only [List.all_cons, List.all_nil, goes, closed, ints_closed, Bool.and_self]) h (src_cl l (p + 1)) rfl (show 1 ≤ 4 by decide)
theorem adopt_rowV (σ : Sto) (key : Nat) (L : List (List UInt8)) : adopt σ key (.o 9 1 L.length (strs L)) = some (.w key 0 L.length, upd σ key (some (.row 9 1 L.length (strs L)))) := by
  rw [adopt_row, if_pos (strs_closed L)]
set_option maxHeartbeats 4000000 in
theorem drawVars_ev (l : List UInt8) : ∃ s k, EE 4 [bytesV l] = some (.t [S s, N k]) ∧ s.length ≤ 600 ∧ (Lit.int .i64 k).wf = true := by
  have hrun : ∀ y, (evC II EE (withOpt (opt 4) pf) MX (strip (bodyOf Tryz.f4)) (St.init [bytesV l])).bind (resK II Tryz.f4.results.toList) = some y → EE 4 [bytesV l] = some y := fun y h => EE_plain T_drawVars (by decide) (Nat.le_of_ble_eq_true rfl) (bytes_cl l) h
  rw [show opt 4 = [] from rfl] at hrun
  simp only [bodyOf, Tryz.f4, SA] at hrun
  obtain ⟨s, p, hs, sl, hp⟩ := some7_ev (l.take 2000) (take2000 l) 0 (by decide)
  have hi := specInstructionsOf_ev s (by omega)
  simp only [RR, IA, PA, RA0, RA1, RA2, RA3, RA4, RA5, RA6, RA7, RA8, RA9, RA10, Nat.reduceAdd, Nat.reduceMul, Nat.reduceEqDiff, Nat.reduceLeDiff, Nat.reduceLT, Int.reduceToNat, Int.reduceLT, Int.reduceLE, Int.reduceEq, Int.reduceNeg, Int.reduceAdd, Int.reduceSub, Int.reduceMul, reduceIte] at hrun
  rw [call_new_v (withOpt_nil_lo (by decide)) (bytes_cl l) (open_ev l) (src_cl _ _)] at hrun
  simp only [RR, IA, PA, RA0, RA1, RA2, RA3, RA4, RA5, RA6, RA7, RA8, RA9, RA10, Nat.reduceAdd, Nat.reduceMul, Nat.reduceEqDiff, Nat.reduceLeDiff, Nat.reduceLT, Int.reduceToNat, Int.reduceLT, Int.reduceLE, Int.reduceEq, Int.reduceNeg, Int.reduceAdd, Int.reduceSub, Int.reduceMul, reduceIte] at hrun
  rw [some7_call (by simp only [upd, if_true]) hs] at hrun
  have hgive : ∀ {σ : Sto} (n : Int), giveAll σ [S s, N n] = some (.t [S s, N n]) := fun n => give_two rfl rfl
  have wfn : ∀ k : Nat, k < 1000 → (Lit.int .i64 (k : Int)).wf = true := by
    intro k hk
    have h1 : IntKind.i64.min ≤ (k : Int) := by show (-9223372036854775808 : Int) ≤ k; omega
    have h2 : (k : Int) ≤ IntKind.i64.max := by show (k : Int) ≤ 9223372036854775807; omega
    simp only [Lit.wf, h1, h2, decide_true, Bool.and_self]
  have hcl := cutL_len 32 s
  cases hb : (specB s).isSome with
  | false =>
    rw [hb, if_neg (by decide)] at hi
    simp only [hi, RR, IA, PA, RA0, RA1, RA2, RA3, RA4, RA5, RA6, RA7, RA8, RA9, RA10, Nat.reduceAdd, Nat.reduceMul, Nat.reduceEqDiff, Nat.reduceLeDiff, Nat.reduceLT, Int.reduceToNat, Int.reduceLT, Int.reduceLE, Int.reduceEq, Int.reduceNeg, Int.reduceAdd, Int.reduceSub, Int.reduceMul, reduceIte] at hrun
    generalize hq : roundsE _ MX _ = q2 at hrun
    have hdl := fun id H1 H4 H5 H6 H15 H16 H17 HS => draw_loop (id := id) (sl := AV.s true 0 []) (s := s) (L := []) (take2000 l) (by decide) ([] : List (List UInt8)) 0 p _ _ _ MX q2 rfl H1 (by show p + 0 ≤ 900000; omega) H4 H5 H6 H15 H16 H17 HS (by
      have : (1000000 : Nat) < MX := by decide
      show 0 < MX; omega) hq
    rcases hdl _ (by first | (simp only [upd, if_true]; done) | rfl) rfl rfl rfl rfl rfl rfl (.inl ⟨true, rfl⟩) with ⟨st, k, rfl, h2, h3, hk⟩ | ⟨e', σ', nx', p', rfl, h4, h5, h6, hσ, hp', hsl⟩
    · simp only [h2, h3, hgive, RR, IA, PA, RA0, RA1, RA2, RA3, RA4, RA5, RA6, RA7, RA8, RA9, RA10, Nat.reduceAdd, Nat.reduceMul, Nat.reduceEqDiff, Nat.reduceLeDiff, Nat.reduceLT, Int.reduceToNat, Int.reduceLT, Int.reduceLE, Int.reduceEq, Int.reduceNeg, Int.reduceAdd, Int.reduceSub, Int.reduceMul, reduceIte] at hrun
      exact ⟨s, k, hrun _ rfl, sl, wfn k hk⟩
    · simp only [List.length_nil] at hp'
      obtain ⟨v, hm, hv⟩ := num_ev (l.take 2000) (take2000 l) p' (by omega) true [0, 1, 2, -1, 0, 9223372036854775807] (by show 0 < 6; decide) (by show 6 ≤ 1000; decide)
      simp only [h4, h5, h6, hσ, bs6n, RR, IA, PA, RA0, RA1, RA2, RA3, RA4, RA5, RA6, RA7, RA8, RA9, RA10, Nat.reduceAdd, Nat.reduceMul, Nat.reduceEqDiff, Nat.reduceLeDiff, Nat.reduceLT, Int.reduceToNat, Int.reduceLT, Int.reduceLE, Int.reduceEq, Int.reduceNeg, Int.reduceAdd, Int.reduceSub, Int.reduceMul, reduceIte] at hrun
      rw [num_callV (n := 6) (L := [0, 1, 2, -1, 0, 9223372036854775807]) rfl hσ hv] at hrun
      simp only [h5, hgive, RR, IA, PA, RA0, RA1, RA2, RA3, RA4, RA5, RA6, RA7, RA8, RA9, RA10, Nat.reduceAdd, Nat.reduceMul, Nat.reduceEqDiff, Nat.reduceLeDiff, Nat.reduceLT, Int.reduceToNat, Int.reduceLT, Int.reduceLE, Int.reduceEq, Int.reduceNeg, Int.reduceAdd, Int.reduceSub, Int.reduceMul, reduceIte] at hrun
      refine ⟨s, v, hrun _ rfl, sl, ?_⟩
      simp only [List.mem_cons, List.not_mem_nil, or_false] at hm
      rcases hm with rfl | rfl | rfl | rfl | rfl | rfl
      · decide
      · decide
      · decide
      · decide
      · decide
      · decide
  | true =>
    rw [hb, if_pos rfl] at hi
    simp only [hi, strs_closed, RR, IA, PA, RA0, RA1, RA2, RA3, RA4, RA5, RA6, RA7, RA8, RA9, RA10, Nat.reduceAdd, Nat.reduceMul, Nat.reduceEqDiff, Nat.reduceLeDiff, Nat.reduceLT, Int.reduceToNat, Int.reduceLT, Int.reduceLE, Int.reduceEq, Int.reduceNeg, Int.reduceAdd, Int.reduceSub, Int.reduceMul, reduceIte] at hrun
    generalize hq : roundsE _ MX _ = q2 at hrun
    have hdl := fun id iid H1 H4 H5 H6 H15 H16 H17 HS => draw_loop (id := id) (sl := AV.w iid 0 (cutL 32 s).length) (s := s) (L := cutL 32 s) (take2000 l) (by omega) (cutL 32 s) 0 p _ _ _ MX q2 rfl H1 (by omega) H4 H5 H6 H15 H16 H17 HS (by
      have : (1000000 : Nat) < MX := by decide
      omega) hq
    rcases hdl _ _ (by first | (simp only [upd, if_true]; done) | rfl) rfl rfl rfl rfl rfl rfl (.inr ⟨_, rfl, rfl⟩) with ⟨st, k, rfl, h2, h3, hk⟩ | ⟨e', σ', nx', p', rfl, h4, h5, h6, hσ, hp', hsl⟩
    · simp only [h2, h3, hgive, RR, IA, PA, RA0, RA1, RA2, RA3, RA4, RA5, RA6, RA7, RA8, RA9, RA10, Nat.reduceAdd, Nat.reduceMul, Nat.reduceEqDiff, Nat.reduceLeDiff, Nat.reduceLT, Int.reduceToNat, Int.reduceLT, Int.reduceLE, Int.reduceEq, Int.reduceNeg, Int.reduceAdd, Int.reduceSub, Int.reduceMul, reduceIte] at hrun
      exact ⟨s, k, hrun _ rfl, sl, wfn k hk⟩
    · obtain ⟨v, hm, hv⟩ := num_ev (l.take 2000) (take2000 l) p' (by omega) true [0, 1, 2, -1, ((cutL 32 s).length : Int), 9223372036854775807] (by show 0 < 6; decide) (by show 6 ≤ 1000; decide)
      simp only [h4, h5, h6, hσ, bs6n, RR, IA, PA, RA0, RA1, RA2, RA3, RA4, RA5, RA6, RA7, RA8, RA9, RA10, Nat.reduceAdd, Nat.reduceMul, Nat.reduceEqDiff, Nat.reduceLeDiff, Nat.reduceLT, Int.reduceToNat, Int.reduceLT, Int.reduceLE, Int.reduceEq, Int.reduceNeg, Int.reduceAdd, Int.reduceSub, Int.reduceMul, reduceIte] at hrun
      rw [num_callV (n := 6) (L := [0, 1, 2, -1, ((cutL 32 s).length : Int), 9223372036854775807]) rfl hσ hv] at hrun
      simp only [h5, hgive, RR, IA, PA, RA0, RA1, RA2, RA3, RA4, RA5, RA6, RA7, RA8, RA9, RA10, Nat.reduceAdd, Nat.reduceMul, Nat.reduceEqDiff, Nat.reduceLeDiff, Nat.reduceLT, Int.reduceToNat, Int.reduceLT, Int.reduceLE, Int.reduceEq, Int.reduceNeg, Int.reduceAdd, Int.reduceSub, Int.reduceMul, reduceIte] at hrun
      refine ⟨s, v, hrun _ rfl, sl, ?_⟩
      simp only [List.mem_cons, List.not_mem_nil, or_false] at hm
      rcases hm with rfl | rfl | rfl | rfl | rfl | rfl
      · decide
      · decide
      · decide
      · decide
      · exact wfn _ (by omega)
      · decide
end
end Go.Proofs.YtegbkihgnofkfaaGreatDoor.Ev
