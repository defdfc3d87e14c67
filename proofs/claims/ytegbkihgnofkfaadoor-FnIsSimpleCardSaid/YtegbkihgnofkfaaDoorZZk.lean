/-
Texts Zk to Zk of the work.
-/
import Derived.Test.YtegbkihgnofkfaaDoorZZh
import Derived.Test.YtegbkihgnofkfaaDoorZDh
/-
Drawn laws: simple terms have simple parts; names of rules.
-/
namespace Go.Proofs.YtegbkihgnofkfaaDoor.Ev
section
set_option linter.unusedVariables false
set_option linter.unusedSimpArgs false
open Go Go.RowKit
set_option linter.unusedVariables false
set_option linter.unusedSimpArgs false
theorem T_implName : TT 40 = some (Tryd.f40, bodyOf Tryd.f40) := by kernel_rfl
theorem T_specName : TT 41 = some (Tryd.f41, bodyOf Tryd.f41) := by kernel_rfl
theorem T_drawName : TT 39 = some (Tryd.f39, bodyOf Tryd.f39) := by kernel_rfl
theorem T_drawIs : TT 37 = some (Tryd.f37, bodyOf Tryd.f37) := by kernel_rfl
theorem T_partsOf : TT 42 = some (Tryd.f42, bodyOf Tryd.f42) := by kernel_rfl
theorem T_lawFnIs : TT 7 = some (Tryd.f7, bodyOf Tryd.f7) := by kernel_rfl
def names7L : List (List UInt8) := [[110, 111, 110, 101], [102, 111, 108, 100], [110, 101, 117, 116, 114, 97, 108], [116, 117, 114, 110], [108, 111, 111, 112], [108, 101, 110, 103, 116, 104], [102, 117, 115, 101]]
theorem names7 (σ : Sto) : bsK σ 7 [(0, S [110, 111, 110, 101]), (1, S [102, 111, 108, 100]), (2, S [110, 101, 117, 116, 114, 97, 108]), (3, S [116, 117, 114, 110]), (4, S [108, 111, 111, 112]), (5, S [108, 101, 110, 103, 116, 104]), (6, S [102, 117, 115, 101])] (some ⟨.str, 1, 16, [.string ⟨#[]⟩]⟩) = some (.s true 7 (strs names7L), σ) := rfl
def nameX (n : Int) : List UInt8 := if n < 0 then [] else names7L.getD n.toNat []
theorem name_cases (n : Int) : n < 0 ∨ 6 < n ∨ n = 0 ∨ n = 1 ∨ n = 2 ∨ n = 3 ∨ n = 4 ∨ n = 5 ∨ n = 6 := by omega
theorem nameX_neg {n : Int} (h : n < 0) : nameX n = [] := if_pos h
theorem nameX_big {n : Int} (h : 6 < n) : nameX n = [] := by
  unfold nameX
  rw [if_neg (by omega)]
  rw [List.getD_eq_getElem?_getD, List.getElem?_eq_none (by show 7 ≤ n.toNat; omega)]
  rfl
theorem implName_ev (n : Int) : EE 40 [N n] = some (S (nameX n)) := by
  refine EE_plain T_implName (by decide) (Nat.le_of_ble_eq_true rfl) rfl ?_
  rw [show opt 40 = [] from rfl]
  simp only [bodyOf, Tryd.f40, SA]
  rcases name_cases n with h | h | rfl | rfl | rfl | rfl | rfl | rfl | rfl
  · simp only [names7, h, nameX_neg h, RR, IA, PA, RA0, RA1, RA2, RA3, RA4, RA5, RA6, RA7, RA8, RA9, RA10, Nat.reduceAdd, Nat.reduceMul, Nat.reduceEqDiff, Nat.reduceLeDiff, Nat.reduceLT, Int.reduceToNat, Int.reduceLT, Int.reduceLE, Int.reduceEq, Int.reduceNeg, Int.reduceAdd, Int.reduceSub, Int.reduceMul, reduceIte]
  · have h1 : ¬ (n < 0) := by omega
    have h2 : ((7 : Nat) : Int) ≤ n := by omega
    simp only [names7, h1, h2, nameX_big h, RR, IA, PA, RA0, RA1, RA2, RA3, RA4, RA5, RA6, RA7, RA8, RA9, RA10, Nat.reduceAdd, Nat.reduceMul, Nat.reduceEqDiff, Nat.reduceLeDiff, Nat.reduceLT, Int.reduceToNat, Int.reduceLT, Int.reduceLE, Int.reduceEq, Int.reduceNeg, Int.reduceAdd, Int.reduceSub, Int.reduceMul, reduceIte]
  all_goals
    have h2 : ¬ (((7 : Nat) : Int) ≤ 0) := by decide
    have h3 : ¬ (((7 : Nat) : Int) ≤ 1) := by decide
    have h4 : ¬ (((7 : Nat) : Int) ≤ 2) := by decide
    have h5 : ¬ (((7 : Nat) : Int) ≤ 3) := by decide
    have h6 : ¬ (((7 : Nat) : Int) ≤ 4) := by decide
    have h7 : ¬ (((7 : Nat) : Int) ≤ 5) := by decide
    have h8 : ¬ (((7 : Nat) : Int) ≤ 6) := by decide
    have k0 : (0 : Int) < ((7 : Nat) : Int) := by decide
    have k1 : (1 : Int) < ((7 : Nat) : Int) := by decide
    have k2 : (2 : Int) < ((7 : Nat) : Int) := by decide
    have k3 : (3 : Int) < ((7 : Nat) : Int) := by decide
    have k4 : (4 : Int) < ((7 : Nat) : Int) := by decide
    have k5 : (5 : Int) < ((7 : Nat) : Int) := by decide
    have k6 : (6 : Int) < ((7 : Nat) : Int) := by decide
    have hsl : (strs names7L).length = 7 := rfl
    simp only [names7, h2, h3, h4, h5, h6, h7, h8, k0, k1, k2, k3, k4, k5, k6, hsl, RR, IA, PA, RA0, RA1, RA2, RA3, RA4, RA5, RA6, RA7, RA8, RA9, RA10, Nat.reduceAdd, Nat.reduceMul, Nat.reduceEqDiff, Nat.reduceLeDiff, Nat.reduceLT, Int.reduceToNat, Int.reduceLT, Int.reduceLE, Int.reduceEq, Int.reduceNeg, Int.reduceAdd, Int.reduceSub, Int.reduceMul, reduceIte]
    rfl
theorem specName_ev (n : Int) : EE 41 [N n] = some (S (nameX n)) := by
  refine EE_plain T_specName (by decide) (Nat.le_of_ble_eq_true rfl) rfl ?_
  rw [show opt 41 = [] from rfl]
  simp only [bodyOf, Tryd.f41, SA]
  have hne : (n < 0 ∨ 6 < n) → EE 41 [N n] = EE 41 [N n] := fun _ => rfl
  rcases name_cases n with h | h | rfl | rfl | rfl | rfl | rfl | rfl | rfl
  · have e0 : ¬ (n = 0) := by omega
    have e1 : ¬ (n = 1) := by omega
    have e2 : ¬ (n = 2) := by omega
    have e3 : ¬ (n = 3) := by omega
    have e4 : ¬ (n = 4) := by omega
    have e5 : ¬ (n = 5) := by omega
    have e6 : ¬ (n = 6) := by omega
    simp only [e0, e1, e2, e3, e4, e5, e6, nameX_neg h, RR, IA, PA, RA0, RA1, RA2, RA3, RA4, RA5, RA6, RA7, RA8, RA9, RA10, Nat.reduceAdd, Nat.reduceMul, Nat.reduceEqDiff, Nat.reduceLeDiff, Nat.reduceLT, Int.reduceToNat, Int.reduceLT, Int.reduceLE, Int.reduceEq, Int.reduceNeg, Int.reduceAdd, Int.reduceSub, Int.reduceMul, reduceIte]
  · have e0 : ¬ (n = 0) := by omega
    have e1 : ¬ (n = 1) := by omega
    have e2 : ¬ (n = 2) := by omega
    have e3 : ¬ (n = 3) := by omega
    have e4 : ¬ (n = 4) := by omega
    have e5 : ¬ (n = 5) := by omega
    have e6 : ¬ (n = 6) := by omega
    simp only [e0, e1, e2, e3, e4, e5, e6, nameX_big h, RR, IA, PA, RA0, RA1, RA2, RA3, RA4, RA5, RA6, RA7, RA8, RA9, RA10, Nat.reduceAdd, Nat.reduceMul, Nat.reduceEqDiff, Nat.reduceLeDiff, Nat.reduceLT, Int.reduceToNat, Int.reduceLT, Int.reduceLE, Int.reduceEq, Int.reduceNeg, Int.reduceAdd, Int.reduceSub, Int.reduceMul, reduceIte]
  all_goals
    simp only [RR, IA, PA, RA0, RA1, RA2, RA3, RA4, RA5, RA6, RA7, RA8, RA9, RA10, Nat.reduceAdd, Nat.reduceMul, Nat.reduceEqDiff, Nat.reduceLeDiff, Nat.reduceLT, Int.reduceToNat, Int.reduceLT, Int.reduceLE, Int.reduceEq, Int.reduceNeg, Int.reduceAdd, Int.reduceSub, Int.reduceMul, reduceIte]
    rfl
theorem nameX_empty (n : Int) : (nameX n == []) = (decide (n < 0) || decide (6 < n)) := by
  rcases name_cases n with h | h | rfl | rfl | rfl | rfl | rfl | rfl | rfl
  · rw [nameX_neg h, decide_eq_true h]; rfl
  · rw [nameX_big h, decide_eq_true h, Bool.or_true]; rfl
  all_goals rfl
theorem bs5 (σ : Sto) (v : Int) : bsK σ 5 [(0, N v), (1, N 6), (2, N 0), (3, N 7), (4, N (-1))] (some ⟨.int .i64, 1, 8, [.int .i64 0]⟩) = some (.s true 5 (ints [v, 6, 0, 7, -1]), σ) := rfl
theorem num_call {σ : Sto} {l : List UInt8} {p id : Nat} {L : List Int} {s : Int} {n : Nat} (hn : n = L.length) (hσ : σ id = some (.ob 77 (srcC l p))) (h : EE 73 [srcL l p, .s true L.length (ints L)] = some (.t [N s, .t [srcL l (p + 1), .s true L.length (ints L)]])) (key : Nat) :
    callOp EE (withOpt [] pf) σ key 73 [.r id 0, .s true n (ints L)] = some (N s, upd σ id (some (.ob 77 (srcC l (p + 1))))) := by
  subst hn
  exact call_ob_v (withOpt_nil_lo (by decide)) hσ (src_cl l p) (by simp only [List.all_cons, List.all_nil, goes, closed, ints_closed, Bool.and_self]) h (src_cl l (p + 1)) rfl (show 1 ≤ 4 by decide)
theorem drawName_ev (l : List UInt8) : ∃ n, EE 39 [bytesV l] = some (N n) := by
  have hrun : ∀ y, (evC II EE (withOpt (opt 39) pf) MX (strip (bodyOf Tryd.f39)) (St.init [bytesV l])).bind (resK II Tryd.f39.results.toList) = some y → EE 39 [bytesV l] = some y := fun y h => EE_plain T_drawName (by decide) (Nat.le_of_ble_eq_true rfl) (bytes_cl l) h
  rw [show opt 39 = [] from rfl] at hrun
  simp only [bodyOf, Tryd.f39, SA] at hrun
  obtain ⟨v, v0, v1, hv⟩ := pick_ev (l.take 2000) (take2000 l) 0 (by decide) 7 (by decide)
  obtain ⟨s, hm, hs⟩ := num_ev (l.take 2000) (take2000 l) (0 + 1) (by decide) true [v, 6, 0, 7, -1] (by show 0 < 5; decide) (by show 5 ≤ 1000; decide)
  simp only [RR, IA, PA, RA0, RA1, RA2, RA3, RA4, RA5, RA6, RA7, RA8, RA9, RA10, Nat.reduceAdd, Nat.reduceMul, Nat.reduceEqDiff, Nat.reduceLeDiff, Nat.reduceLT, Int.reduceToNat, Int.reduceLT, Int.reduceLE, Int.reduceEq, Int.reduceNeg, Int.reduceAdd, Int.reduceSub, Int.reduceMul, reduceIte] at hrun
  rw [call_new_v (withOpt_nil_lo (by decide)) (bytes_cl l) (open_ev l) (src_cl _ _)] at hrun
  simp only [RR, IA, PA, RA0, RA1, RA2, RA3, RA4, RA5, RA6, RA7, RA8, RA9, RA10, Nat.reduceAdd, Nat.reduceMul, Nat.reduceEqDiff, Nat.reduceLeDiff, Nat.reduceLT, Int.reduceToNat, Int.reduceLT, Int.reduceLE, Int.reduceEq, Int.reduceNeg, Int.reduceAdd, Int.reduceSub, Int.reduceMul, reduceIte] at hrun
  rw [pick_call (withOpt_nil_lo (by decide)) (by simp only [upd, if_true]) hv] at hrun
  simp only [bs5, RR, IA, PA, RA0, RA1, RA2, RA3, RA4, RA5, RA6, RA7, RA8, RA9, RA10, Nat.reduceAdd, Nat.reduceMul, Nat.reduceEqDiff, Nat.reduceLeDiff, Nat.reduceLT, Int.reduceToNat, Int.reduceLT, Int.reduceLE, Int.reduceEq, Int.reduceNeg, Int.reduceAdd, Int.reduceSub, Int.reduceMul, reduceIte] at hrun
  rw [num_call (n := 5) (L := [v, 6, 0, 7, -1]) rfl (by simp only [upd, if_true]) hs] at hrun
  simp only [RR, IA, PA, RA0, RA1, RA2, RA3, RA4, RA5, RA6, RA7, RA8, RA9, RA10, Nat.reduceAdd, Nat.reduceMul, Nat.reduceEqDiff, Nat.reduceLeDiff, Nat.reduceLT, Int.reduceToNat, Int.reduceLT, Int.reduceLE, Int.reduceEq, Int.reduceNeg, Int.reduceAdd, Int.reduceSub, Int.reduceMul, reduceIte] at hrun
  exact ⟨s, hrun _ rfl⟩
set_option maxHeartbeats 4000000 in
theorem drawIs_ev (l : List UInt8) : ∃ s, EE 37 [bytesV l] = some (S s) ∧ s.length ≤ 300 := by
  have hrun : ∀ y, (evC II EE (withOpt (opt 37) pf) MX (strip (bodyOf Tryd.f37)) (St.init [bytesV l])).bind (resK II Tryd.f37.results.toList) = some y → EE 37 [bytesV l] = some y := fun y h => EE_plain T_drawIs (by decide) (Nat.le_of_ble_eq_true rfl) (bytes_cl l) h
  rw [show opt 37 = [] from rfl] at hrun
  simp only [bodyOf, Tryd.f37, SA] at hrun
  obtain ⟨t, q, ht, tl, hq⟩ := some10_ev (l.take 2000) (take2000 l) 0 (by decide)
  have hs := specSimp_ev t (by omega)
  simp only [RR, IA, PA, RA0, RA1, RA2, RA3, RA4, RA5, RA6, RA7, RA8, RA9, RA10, Nat.reduceAdd, Nat.reduceMul, Nat.reduceEqDiff, Nat.reduceLeDiff, Nat.reduceLT, Int.reduceToNat, Int.reduceLT, Int.reduceLE, Int.reduceEq, Int.reduceNeg, Int.reduceAdd, Int.reduceSub, Int.reduceMul, reduceIte] at hrun
  rw [call_new_v (withOpt_nil_lo (by decide)) (bytes_cl l) (open_ev l) (src_cl _ _)] at hrun
  simp only [RR, IA, PA, RA0, RA1, RA2, RA3, RA4, RA5, RA6, RA7, RA8, RA9, RA10, Nat.reduceAdd, Nat.reduceMul, Nat.reduceEqDiff, Nat.reduceLeDiff, Nat.reduceLT, Int.reduceToNat, Int.reduceLT, Int.reduceLE, Int.reduceEq, Int.reduceNeg, Int.reduceAdd, Int.reduceSub, Int.reduceMul, reduceIte] at hrun
  rw [some10_call (by simp only [upd, if_true]) ht] at hrun
  cases hr : rdT t with
  | none =>
    have e : simpX t = ([], false) := by unfold simpX; rw [hr]
    rw [e] at hs
    simp only at hs
    simp only [hs, adopt_sbX, RR, IA, PA, RA0, RA1, RA2, RA3, RA4, RA5, RA6, RA7, RA8, RA9, RA10, Nat.reduceAdd, Nat.reduceMul, Nat.reduceEqDiff, Nat.reduceLeDiff, Nat.reduceLT, Int.reduceToNat, Int.reduceLT, Int.reduceLE, Int.reduceEq, Int.reduceNeg, Int.reduceAdd, Int.reduceSub, Int.reduceMul, reduceIte] at hrun
    exact ⟨t, hrun _ rfl, tl⟩
  | some x =>
    have e : simpX t = (textT (doneX x).1, true) := by unfold simpX; rw [hr]
    rw [e] at hs
    simp only at hs
    obtain ⟨d1, d2, d3⟩ := done_fit hr
    obtain ⟨v, v0, v1, hv⟩ := pick_ev (l.take 2000) (take2000 l) q (by omega) 2 (by decide)
    simp only [hs, adopt_sbX, RR, IA, PA, RA0, RA1, RA2, RA3, RA4, RA5, RA6, RA7, RA8, RA9, RA10, Nat.reduceAdd, Nat.reduceMul, Nat.reduceEqDiff, Nat.reduceLeDiff, Nat.reduceLT, Int.reduceToNat, Int.reduceLT, Int.reduceLE, Int.reduceEq, Int.reduceNeg, Int.reduceAdd, Int.reduceSub, Int.reduceMul, reduceIte] at hrun
    rw [pick_call (withOpt_nil_lo (by decide)) (by simp only [upd, if_true]) hv] at hrun
    by_cases hv0 : v = 0
    · simp only [hv0, RR, IA, PA, RA0, RA1, RA2, RA3, RA4, RA5, RA6, RA7, RA8, RA9, RA10, Nat.reduceAdd, Nat.reduceMul, Nat.reduceEqDiff, Nat.reduceLeDiff, Nat.reduceLT, Int.reduceToNat, Int.reduceLT, Int.reduceLE, Int.reduceEq, Int.reduceNeg, Int.reduceAdd, Int.reduceSub, Int.reduceMul, reduceIte] at hrun
      exact ⟨_, hrun _ rfl, by omega⟩
    · simp only [hv0, RR, IA, PA, RA0, RA1, RA2, RA3, RA4, RA5, RA6, RA7, RA8, RA9, RA10, Nat.reduceAdd, Nat.reduceMul, Nat.reduceEqDiff, Nat.reduceLeDiff, Nat.reduceLT, Int.reduceToNat, Int.reduceLT, Int.reduceLE, Int.reduceEq, Int.reduceNeg, Int.reduceAdd, Int.reduceSub, Int.reduceMul, reduceIte] at hrun
      exact ⟨t, hrun _ rfl, tl⟩
/-- The texts of a term's parts. -/
def partsX : T → List (List UInt8)
  | .dig _ => []
  | .var _ => []
  | .one _ x => [textT x]
  | .two _ x y => [textT x, textT y]
  | .loop _ _ x y => [textT x, textT y]
def partsV (L : List (List UInt8)) : AV := if L = [] then .s true 0 [] else .o 9 1 L.length (strs L)
set_option maxHeartbeats 8000000 in
theorem partsOf_ev {t : List UInt8} {x : T} (hr : rdT t = some x) (hl : t.length < 1000000) : EE 42 [S t] = some (partsV (partsX x)) := by
  have h := termOf_ev t (by omega)
  rw [hr] at h
  simp only at h
  have hw := (rdT_wf hr).1
  have hlen := rd_len hr
  refine EE_few 3 T_partsOf (by decide) (Nat.le_of_ble_eq_true rfl) rfl ?_
  rw [show opt 42 = [] from rfl]
  simp only [bodyOf, Tryd.f42, SA]
  cases x with
  | dig c =>
    simp only [h, adopt_encPX, RR, TMA, IA, PA, RA0, RA1, RA2, RA3, RA4, RA5, RA6, RA7, RA8, RA9, RA10, Nat.reduceAdd, Nat.reduceMul, Nat.reduceEqDiff, Nat.reduceLeDiff, Nat.reduceLT, Int.reduceToNat, Int.reduceLT, Int.reduceLE, Int.reduceEq, Int.reduceNeg, Int.reduceAdd, Int.reduceSub, Int.reduceMul, reduceIte]
    simp only [encP, partsV, partsX, if_true, rounds_rd, RR, IA, PA, RA0, RA1, RA2, RA3, RA4, RA5, RA6, RA7, RA8, RA9, RA10, Nat.reduceAdd, Nat.reduceMul, Nat.reduceEqDiff, Nat.reduceLeDiff, Nat.reduceLT, Int.reduceToNat, Int.reduceLT, Int.reduceLE, Int.reduceEq, Int.reduceNeg, Int.reduceAdd, Int.reduceSub, Int.reduceMul, reduceIte]
  | var c =>
    simp only [h, adopt_encPX, RR, TMA, IA, PA, RA0, RA1, RA2, RA3, RA4, RA5, RA6, RA7, RA8, RA9, RA10, Nat.reduceAdd, Nat.reduceMul, Nat.reduceEqDiff, Nat.reduceLeDiff, Nat.reduceLT, Int.reduceToNat, Int.reduceLT, Int.reduceLE, Int.reduceEq, Int.reduceNeg, Int.reduceAdd, Int.reduceSub, Int.reduceMul, reduceIte]
    simp only [encP, partsV, partsX, if_true, rounds_rd, RR, IA, PA, RA0, RA1, RA2, RA3, RA4, RA5, RA6, RA7, RA8, RA9, RA10, Nat.reduceAdd, Nat.reduceMul, Nat.reduceEqDiff, Nat.reduceLeDiff, Nat.reduceLT, Int.reduceToNat, Int.reduceLT, Int.reduceLE, Int.reduceEq, Int.reduceNeg, Int.reduceAdd, Int.reduceSub, Int.reduceMul, reduceIte]
  | one s y =>
    simp only [textT, List.length_cons] at hlen
    have hy := text_ev (encP_is y) hw.2 (by omega)
    simp only [h, adopt_encPX, RR, TMA, IA, PA, RA0, RA1, RA2, RA3, RA4, RA5, RA6, RA7, RA8, RA9, RA10, Nat.reduceAdd, Nat.reduceMul, Nat.reduceEqDiff, Nat.reduceLeDiff, Nat.reduceLT, Int.reduceToNat, Int.reduceLT, Int.reduceLE, Int.reduceEq, Int.reduceNeg, Int.reduceAdd, Int.reduceSub, Int.reduceMul, reduceIte]
    simp only [encP, hy, rounds_rd, RR, TMA, IA, PA, RA0, RA1, RA2, RA3, RA4, RA5, RA6, RA7, RA8, RA9, RA10, Nat.reduceAdd, Nat.reduceMul, Nat.reduceEqDiff, Nat.reduceLeDiff, Nat.reduceLT, Int.reduceToNat, Int.reduceLT, Int.reduceLE, Int.reduceEq, Int.reduceNeg, Int.reduceAdd, Int.reduceSub, Int.reduceMul, reduceIte]
    rw [app_s (by decide) rfl rfl rfl (by omega) (by omega) (.inl (by decide))]
    simp only [encP, hy, rounds_rd, RR, TMA, IA, PA, RA0, RA1, RA2, RA3, RA4, RA5, RA6, RA7, RA8, RA9, RA10, Nat.reduceAdd, Nat.reduceMul, Nat.reduceEqDiff, Nat.reduceLeDiff, Nat.reduceLT, Int.reduceToNat, Int.reduceLT, Int.reduceLE, Int.reduceEq, Int.reduceNeg, Int.reduceAdd, Int.reduceSub, Int.reduceMul, reduceIte]
    exact give_row (by rfl) rfl
  | two s y z =>
    simp only [textT, List.length_cons, List.length_append, List.length_nil] at hlen
    have hy := text_ev (encP_is y) hw.2.1 (by omega)
    have hz := text_ev (encP_is z) hw.2.2 (by omega)
    simp only [h, adopt_encPX, RR, TMA, IA, PA, RA0, RA1, RA2, RA3, RA4, RA5, RA6, RA7, RA8, RA9, RA10, Nat.reduceAdd, Nat.reduceMul, Nat.reduceEqDiff, Nat.reduceLeDiff, Nat.reduceLT, Int.reduceToNat, Int.reduceLT, Int.reduceLE, Int.reduceEq, Int.reduceNeg, Int.reduceAdd, Int.reduceSub, Int.reduceMul, reduceIte]
    simp only [encP, hy, hz, rounds_rd, RR, TMA, IA, PA, RA0, RA1, RA2, RA3, RA4, RA5, RA6, RA7, RA8, RA9, RA10, Nat.reduceAdd, Nat.reduceMul, Nat.reduceEqDiff, Nat.reduceLeDiff, Nat.reduceLT, Int.reduceToNat, Int.reduceLT, Int.reduceLE, Int.reduceEq, Int.reduceNeg, Int.reduceAdd, Int.reduceSub, Int.reduceMul, reduceIte]
    rw [app_s (by decide) rfl rfl rfl (by omega) (by omega) (.inl (by decide))]
    simp only [encP, hy, hz, rounds_rd, RR, TMA, IA, PA, RA0, RA1, RA2, RA3, RA4, RA5, RA6, RA7, RA8, RA9, RA10, Nat.reduceAdd, Nat.reduceMul, Nat.reduceEqDiff, Nat.reduceLeDiff, Nat.reduceLT, Int.reduceToNat, Int.reduceLT, Int.reduceLE, Int.reduceEq, Int.reduceNeg, Int.reduceAdd, Int.reduceSub, Int.reduceMul, reduceIte]
    rw [app_w (by rfl) (by decide) rfl rfl rfl (by omega) (by omega) (by decide)]
    simp only [encP, hy, hz, rounds_rd, RR, TMA, IA, PA, RA0, RA1, RA2, RA3, RA4, RA5, RA6, RA7, RA8, RA9, RA10, Nat.reduceAdd, Nat.reduceMul, Nat.reduceEqDiff, Nat.reduceLeDiff, Nat.reduceLT, Int.reduceToNat, Int.reduceLT, Int.reduceLE, Int.reduceEq, Int.reduceNeg, Int.reduceAdd, Int.reduceSub, Int.reduceMul, reduceIte]
    exact give_row (by rfl) rfl
  | loop s v y z =>
    simp only [textT, List.length_cons, List.length_append, List.length_nil] at hlen
    have hy := text_ev (encP_is y) hw.2.2.1 (by omega)
    have hz := text_ev (encP_is z) hw.2.2.2 (by omega)
    simp only [h, adopt_encPX, RR, TMA, IA, PA, RA0, RA1, RA2, RA3, RA4, RA5, RA6, RA7, RA8, RA9, RA10, Nat.reduceAdd, Nat.reduceMul, Nat.reduceEqDiff, Nat.reduceLeDiff, Nat.reduceLT, Int.reduceToNat, Int.reduceLT, Int.reduceLE, Int.reduceEq, Int.reduceNeg, Int.reduceAdd, Int.reduceSub, Int.reduceMul, reduceIte]
    simp only [encP, hy, hz, rounds_rd, RR, TMA, IA, PA, RA0, RA1, RA2, RA3, RA4, RA5, RA6, RA7, RA8, RA9, RA10, Nat.reduceAdd, Nat.reduceMul, Nat.reduceEqDiff, Nat.reduceLeDiff, Nat.reduceLT, Int.reduceToNat, Int.reduceLT, Int.reduceLE, Int.reduceEq, Int.reduceNeg, Int.reduceAdd, Int.reduceSub, Int.reduceMul, reduceIte]
    rw [app_s (by decide) rfl rfl rfl (by omega) (by omega) (.inl (by decide))]
    simp only [encP, hy, hz, rounds_rd, RR, TMA, IA, PA, RA0, RA1, RA2, RA3, RA4, RA5, RA6, RA7, RA8, RA9, RA10, Nat.reduceAdd, Nat.reduceMul, Nat.reduceEqDiff, Nat.reduceLeDiff, Nat.reduceLT, Int.reduceToNat, Int.reduceLT, Int.reduceLE, Int.reduceEq, Int.reduceNeg, Int.reduceAdd, Int.reduceSub, Int.reduceMul, reduceIte]
    rw [app_w (by rfl) (by decide) rfl rfl rfl (by omega) (by omega) (by decide)]
    simp only [encP, hy, hz, rounds_rd, RR, TMA, IA, PA, RA0, RA1, RA2, RA3, RA4, RA5, RA6, RA7, RA8, RA9, RA10, Nat.reduceAdd, Nat.reduceMul, Nat.reduceEqDiff, Nat.reduceLeDiff, Nat.reduceLT, Int.reduceToNat, Int.reduceLT, Int.reduceLE, Int.reduceEq, Int.reduceNeg, Int.reduceAdd, Int.reduceSub, Int.reduceMul, reduceIte]
    exact give_row (by rfl) rfl
theorem simple_part {y : T} (hw : WF y) (hl : (textT y).length ≤ 80) (h : Simple y) : isSimpX (textT y) = true := by
  have hr := rdT_of hw hl
  have hi := isSimple_iff hr
  exact hi.1.2 (hi.2.2 h)
theorem adopt_rowS (σ : Sto) (key : Nat) (L : List (List UInt8)) : adopt σ key (.o 9 1 L.length (strs L)) = some (.w key 0 L.length, upd σ key (some (.row 9 1 L.length (strs L)))) := by
  rw [adopt_row, if_pos (strs_closed L)]
set_option maxHeartbeats 8000000 in
theorem fnIs_law (l m : List UInt8) : EE 7 [bytesV l, bytesV m] = some (B true) := by
  have hcl : closedL [bytesV l, bytesV m] = true := by
    simp only [bytesV_eq, closedL, closed, cbs_closed, Bool.and_self]
  refine EE_few 3 T_lawFnIs (by decide) (Nat.le_of_ble_eq_true rfl) hcl ?_
  rw [show opt 7 = [] from rfl]
  simp only [bodyOf, Tryd.f7, SA]
  by_cases hbig : (1048576 : Int) < (l.length : Int)
  · simp only [bytesV_eq, hbig, RR, IA, PA, RA0, RA1, RA2, RA3, RA4, RA5, RA6, RA7, RA8, RA9, RA10, Nat.reduceAdd, Nat.reduceMul, Nat.reduceEqDiff, Nat.reduceLeDiff, Nat.reduceLT, Int.reduceToNat, Int.reduceLT, Int.reduceLE, Int.reduceEq, Int.reduceNeg, Int.reduceAdd, Int.reduceSub, Int.reduceMul, reduceIte]
  by_cases hbig2 : (1048576 : Int) < (m.length : Int)
  · simp only [bytesV_eq, hbig, hbig2, RR, IA, PA, RA0, RA1, RA2, RA3, RA4, RA5, RA6, RA7, RA8, RA9, RA10, Nat.reduceAdd, Nat.reduceMul, Nat.reduceEqDiff, Nat.reduceLeDiff, Nat.reduceLT, Int.reduceToNat, Int.reduceLT, Int.reduceLE, Int.reduceEq, Int.reduceNeg, Int.reduceAdd, Int.reduceSub, Int.reduceMul, reduceIte]
  obtain ⟨t, ht, hl⟩ := drawIs_ev l
  obtain ⟨r, hrr⟩ := drawName_ev m
  rw [bytesV_eq] at ht hrr
  have hcb := cbs_closed l
  have hcm := cbs_closed m
  have h := implIsSimple_ev t (by omega)
  have k := specIsSimple_ev t (by omega)
  have n1 := implName_ev r
  have n2 := specName_ev r
  have n3 := nameX_empty r
  have n4 : (nameX r == nameX r) = true := by simp
  have hruF := implRuleFor_ev t (by omega)
  cases hs : isSimpX t with
  | false =>
    rw [hs] at h k
    cases hn : decide (r < 0)
    all_goals
      cases hn2 : decide (6 < r)
      all_goals
        rw [hn, hn2] at n3
        simp only [Bool.or_false, Bool.or_true, Bool.true_or, Bool.false_or] at n3
        simp only [bytesV_eq, hbig, hbig2, hcb, hcm, ht, hrr, h, k, n1, n2, n3, n4, hn, hn2, RR, IA, PA, RA0, RA1, RA2, RA3, RA4, RA5, RA6, RA7, RA8, RA9, RA10, Nat.reduceAdd, Nat.reduceMul, Nat.reduceEqDiff, Nat.reduceLeDiff, Nat.reduceLT, Int.reduceToNat, Int.reduceLT, Int.reduceLE, Int.reduceEq, Int.reduceNeg, Int.reduceAdd, Int.reduceSub, Int.reduceMul, reduceIte]
  | true =>
    rw [hs] at h k
    obtain ⟨x, hr⟩ : ∃ x, rdT t = some x := by
      cases hr : rdT t with
      | none =>
        unfold isSimpX simpX at hs
        rw [hr] at hs
        cases hs
      | some x => exact ⟨x, rfl⟩
    have hi := isSimple_iff hr
    have hsim : Simple x := hi.2.1 (hi.1.1 hs)
    have hw := (rdT_wf hr).1
    have hlen := rd_len hr
    obtain ⟨hno, q1, q2, q3⟩ := simple_parts hw hlen hsim
    have hp := partsOf_ev hr (by omega)
    have e0 : rulX t = 0 := by
      unfold rulX rulN
      rw [hr]
      simp only
      rw [hno]
    rw [e0] at hruF
    cases x with
    | dig c =>
      have hp' : EE 42 [S t] = some (.s true 0 []) := hp
      cases hn : decide (r < 0)
      all_goals
        cases hn2 : decide (6 < r)
        all_goals
          rw [hn, hn2] at n3
          simp only [Bool.or_false, Bool.or_true, Bool.true_or, Bool.false_or] at n3
          simp only [bytesV_eq, hbig, hbig2, hcb, hcm, ht, hrr, h, k, n1, n2, n3, n4, hn, hn2, hruF, hp', rounds_rd, RR, IA, PA, RA0, RA1, RA2, RA3, RA4, RA5, RA6, RA7, RA8, RA9, RA10, Nat.reduceAdd, Nat.reduceMul, Nat.reduceEqDiff, Nat.reduceLeDiff, Nat.reduceLT, Int.reduceToNat, Int.reduceLT, Int.reduceLE, Int.reduceEq, Int.reduceNeg, Int.reduceAdd, Int.reduceSub, Int.reduceMul, reduceIte]
    | var c =>
      have hp' : EE 42 [S t] = some (.s true 0 []) := hp
      cases hn : decide (r < 0)
      all_goals
        cases hn2 : decide (6 < r)
        all_goals
          rw [hn, hn2] at n3
          simp only [Bool.or_false, Bool.or_true, Bool.true_or, Bool.false_or] at n3
          simp only [bytesV_eq, hbig, hbig2, hcb, hcm, ht, hrr, h, k, n1, n2, n3, n4, hn, hn2, hruF, hp', rounds_rd, RR, IA, PA, RA0, RA1, RA2, RA3, RA4, RA5, RA6, RA7, RA8, RA9, RA10, Nat.reduceAdd, Nat.reduceMul, Nat.reduceEqDiff, Nat.reduceLeDiff, Nat.reduceLT, Int.reduceToNat, Int.reduceLT, Int.reduceLE, Int.reduceEq, Int.reduceNeg, Int.reduceAdd, Int.reduceSub, Int.reduceMul, reduceIte]
    | one s y =>
      simp only [textT, List.length_cons] at hlen
      have hp' : EE 42 [S t] = some (.o 9 1 1 [S (textT y)]) := hp
      have i1 := implIsSimple_ev (textT y) (by omega)
      rw [simple_part hw.2 (by omega) (q1 s y rfl)] at i1
      have hc1 : closedL [S (textT y)] = true := rfl
      cases hn : decide (r < 0)
      all_goals
        cases hn2 : decide (6 < r)
        all_goals
          rw [hn, hn2] at n3
          simp only [Bool.or_false, Bool.or_true, Bool.true_or, Bool.false_or] at n3
          simp only [bytesV_eq, hbig, hbig2, hcb, hcm, ht, hrr, h, k, n1, n2, n3, n4, hn, hn2, hruF, hp', hc1, i1, rounds_rd, RR, IA, PA, RA0, RA1, RA2, RA3, RA4, RA5, RA6, RA7, RA8, RA9, RA10, Nat.reduceAdd, Nat.reduceMul, Nat.reduceEqDiff, Nat.reduceLeDiff, Nat.reduceLT, Int.reduceToNat, Int.reduceLT, Int.reduceLE, Int.reduceEq, Int.reduceNeg, Int.reduceAdd, Int.reduceSub, Int.reduceMul, reduceIte]
    | two s y z =>
      simp only [textT, List.length_cons, List.length_append, List.length_nil] at hlen
      have hp' : EE 42 [S t] = some (.o 9 1 2 [S (textT y), S (textT z)]) := hp
      have i1 := implIsSimple_ev (textT y) (by omega)
      rw [simple_part hw.2.1 (by omega) (q2 s y z rfl).1] at i1
      have i2 := implIsSimple_ev (textT z) (by omega)
      rw [simple_part hw.2.2 (by omega) (q2 s y z rfl).2] at i2
      have hc1 : closedL [S (textT y), S (textT z)] = true := rfl
      cases hn : decide (r < 0)
      all_goals
        cases hn2 : decide (6 < r)
        all_goals
          rw [hn, hn2] at n3
          simp only [Bool.or_false, Bool.or_true, Bool.true_or, Bool.false_or] at n3
          simp only [bytesV_eq, hbig, hbig2, hcb, hcm, ht, hrr, h, k, n1, n2, n3, n4, hn, hn2, hruF, hp', hc1, i1, i2, rounds_rd, RR, IA, PA, RA0, RA1, RA2, RA3, RA4, RA5, RA6, RA7, RA8, RA9, RA10, Nat.reduceAdd, Nat.reduceMul, Nat.reduceEqDiff, Nat.reduceLeDiff, Nat.reduceLT, Int.reduceToNat, Int.reduceLT, Int.reduceLE, Int.reduceEq, Int.reduceNeg, Int.reduceAdd, Int.reduceSub, Int.reduceMul, reduceIte]
    | loop s v y z =>
      simp only [textT, List.length_cons, List.length_append, List.length_nil] at hlen
      have hp' : EE 42 [S t] = some (.o 9 1 2 [S (textT y), S (textT z)]) := hp
      have i1 := implIsSimple_ev (textT y) (by omega)
      rw [simple_part hw.2.2.1 (by omega) (q3 s v y z rfl).1] at i1
      have i2 := implIsSimple_ev (textT z) (by omega)
      rw [simple_part hw.2.2.2 (by omega) (q3 s v y z rfl).2] at i2
      have hc1 : closedL [S (textT y), S (textT z)] = true := rfl
      cases hn : decide (r < 0)
      all_goals
        cases hn2 : decide (6 < r)
        all_goals
          rw [hn, hn2] at n3
          simp only [Bool.or_false, Bool.or_true, Bool.true_or, Bool.false_or] at n3
          simp only [bytesV_eq, hbig, hbig2, hcb, hcm, ht, hrr, h, k, n1, n2, n3, n4, hn, hn2, hruF, hp', hc1, i1, i2, rounds_rd, RR, IA, PA, RA0, RA1, RA2, RA3, RA4, RA5, RA6, RA7, RA8, RA9, RA10, Nat.reduceAdd, Nat.reduceMul, Nat.reduceEqDiff, Nat.reduceLeDiff, Nat.reduceLT, Int.reduceToNat, Int.reduceLT, Int.reduceLE, Int.reduceEq, Int.reduceNeg, Int.reduceAdd, Int.reduceSub, Int.reduceMul, reduceIte]
end
end Go.Proofs.YtegbkihgnofkfaaDoor.Ev
