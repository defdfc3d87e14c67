/-
Texts Uc to Uc of the work.
-/
import Derived.Test.YtegbkihgnofkfaaDoorZUb
import Derived.Test.YtegbkihgnofkfaaDoorZE4
/-
Code: a text cut at a byte; both cuts are the same.
-/
namespace Go.Proofs.YtegbkihgnofkfaaDoor.Ev
section
set_option linter.unusedVariables false
set_option linter.unusedSimpArgs false
open Go Go.RowKit
set_option linter.unusedVariables false
set_option linter.unusedSimpArgs false

/-- The pieces of a text between the bytes c, cur being at hand. -/
def cutF (c : UInt8) : List UInt8 → List UInt8 → List (List UInt8)
  | cur, [] => [cur]
  | cur, x :: l => if x = c then cur :: cutF c [] l else cutF c (cur ++ [x]) l
def cutL (c : UInt8) (l : List UInt8) : List (List UInt8) := cutF c [] l
theorem cutF_len (c : UInt8) : ∀ (l cur : List UInt8), (cutF c cur l).length = l.count c + 1
  | [], cur => rfl
  | x :: l, cur => by
    rw [cutF]
    by_cases h : x = c
    · subst h
      simp [cutF_len]
    · rw [if_neg h, cutF_len c l, List.count_cons_of_ne h]
theorem T_l13Cut : TT 67 = some (Tryd.f67, bodyOf Tryd.f67) := by kernel_rfl
theorem l13Cut_loop (s : List UInt8) (c : UInt8) (hs : s.length < 1000000000) : ∀ (r : List UInt8) (i from_ n : Nat) (done : List (List UInt8)) (e : Nat → AV) (σ : Sto) (nx : Nat) (q : Option (Ex × St)),
    s.drop i = r → i ≤ s.length → from_ ≤ i → r.length + 1 < n → done.length ≤ i → roundsE (evC II EE (withOpt [] pf) MX (bodyL Tryd.f67 0)) n ⟨e, σ, nx⟩ = q →
    e 0 = S s → e 1 = U c → Lst σ nx 9 1 (e 5) done.length (strs done) → e 6 = N from_ → e 7 = N i →
    ∃ e' σ' nx', q = some (.exit 0, ⟨e', σ', nx'⟩) ∧ Lst σ' nx' 9 1 (e' 5) (done ++ cutF c ((s.take i).drop from_) r).length (strs (done ++ cutF c ((s.take i).drop from_) r)) := by
  intro r
  induction r with
  | nil =>
    intro i from_ n done e σ nx q hd hi hf hn hdl hq h0 h1 h5 h6 h7
    have hlen : i = s.length := by
      have : s.length ≤ i := by simpa using hd
      omega
    subst hlen
    obtain ⟨k, rfl⟩ : ∃ k, n = k + 2 := ⟨n - 2, by simp only [List.length_nil] at hn; omega⟩
    rw [rounds_rd] at hq
    have hc : ((s.length : Int) ≤ (s.length : Int)) := Int.le_refl _
    have hf1 : (0 : Int) ≤ (from_ : Int) := by omega
    have hf2 : (from_ : Int) ≤ (s.length : Int) := by omega
    have hw : IntKind.i64.wrap ((s.length : Int) + 1) = ((s.length + 1 : Nat) : Int) := by rw [wrap64 (by omega) (by omega)]; rfl
    have hc' : ¬ (((s.length + 1 : Nat) : Int) ≤ (s.length : Int)) := by omega
    simp only [bodyL, bodyOf, Tryd.f67, SA, loops, List.nil_append, List.append_nil, List.cons_append, List.getD_cons_zero, List.getD_cons_succ] at hq
    simp only [h0, h1, h6, h7, hc, hw, hf1, hf2, Int.toNat_natCast, RR, IA, PA, RA0, RA1, RA2, RA3, RA4, RA5, RA6, RA7, RA8, RA9, RA10, Nat.reduceAdd, Nat.reduceMul, Nat.reduceEqDiff, Nat.reduceLeDiff, Nat.reduceLT, Int.reduceToNat, Int.reduceLT, Int.reduceLE, Int.reduceEq, Int.reduceNeg, Int.reduceAdd, Int.reduceSub, Int.reduceMul, reduceIte] at hq
    rw [lst_app h5 (by decide) (by rfl) (by simp only [List.all_cons, List.all_nil, leafOk_str, Bool.and_self]) (by decide) (by omega) (by omega) (by omega)] at hq
    simp only [h7, hw, IA, PA, RA0, RA1, RA2, RA3, RA4, RA5, RA6, RA7, RA8, RA9, RA10, Nat.reduceAdd, Nat.reduceMul, Nat.reduceEqDiff, Nat.reduceLeDiff, Nat.reduceLT, Int.reduceToNat, Int.reduceLT, Int.reduceLE, Int.reduceEq, Int.reduceNeg, Int.reduceAdd, Int.reduceSub, Int.reduceMul, reduceIte] at hq
    rw [rounds_rd] at hq
    simp only [h0, hc', Int.toNat_natCast, RR, IA, PA, RA0, RA1, RA2, RA3, RA4, RA5, RA6, RA7, RA8, RA9, RA10, Nat.reduceAdd, Nat.reduceMul, Nat.reduceEqDiff, Nat.reduceLeDiff, Nat.reduceLT, Int.reduceToNat, Int.reduceLT, Int.reduceLE, Int.reduceEq, Int.reduceNeg, Int.reduceAdd, Int.reduceSub, Int.reduceMul, reduceIte] at hq
    refine ⟨_, _, _, hq.symm, ?_⟩
    simp only [cutF, List.length_append, List.length_cons, List.length_nil, ← strs_append]
    exact lst_key (by simp [strs_len]) (by omega)
  | cons x r ih =>
    intro i from_ n done e σ nx q hd hi hf hn hdl hq h0 h1 h5 h6 h7
    have hil : i < s.length := by
      rcases Nat.lt_or_ge i s.length with h | h
      · exact h
      · rw [List.drop_eq_nil_of_le h] at hd; cases hd
    have hx : s[i]? = some x := by
      have : (s.drop i)[0]? = some x := by rw [hd]; rfl
      simpa using this
    have hd' : s.drop (i + 1) = r := by
      have : (s.drop i).drop 1 = r := by rw [hd]; rfl
      simpa [List.drop_drop] using this
    have htk : (s.take (i + 1)).drop from_ = (s.take i).drop from_ ++ [x] := by
      rw [List.take_add_one, hx, List.drop_append_of_le_length (by simp; omega)]
      rfl
    have htk' : (s.take (i + 1)).drop (i + 1) = [] := by simp
    obtain ⟨k, rfl⟩ : ∃ k, n = k + 1 := ⟨n - 1, by omega⟩
    rw [rounds_rd] at hq
    have hc : ((i : Int) ≤ (s.length : Int)) := by omega
    have hne : ¬ ((i : Int) = (s.length : Int)) := by omega
    have hlt : ((i : Int) < (s.length : Int)) := by omega
    have hz : (0 : Int) ≤ (i : Int) := by omega
    have hf1 : (0 : Int) ≤ (from_ : Int) := by omega
    have hf2 : (from_ : Int) ≤ (i : Int) := by omega
    have hw : IntKind.i64.wrap ((i : Int) + 1) = ((i + 1 : Nat) : Int) := by rw [wrap64 (by omega) (by omega)]; rfl
    simp only [bodyL, bodyOf, Tryd.f67, SA, loops, List.nil_append, List.append_nil, List.cons_append, List.getD_cons_zero, List.getD_cons_succ] at hq
    simp only [h0, h1, h6, h7, hc, hne, hlt, hz, hx, hw, hf1, hf2, Int.toNat_natCast, RR, IA, PA, RA0, RA1, RA2, RA3, RA4, RA5, RA6, RA7, RA8, RA9, RA10, Nat.reduceAdd, Nat.reduceMul, Nat.reduceEqDiff, Nat.reduceLeDiff, Nat.reduceLT, Int.reduceToNat, Int.reduceLT, Int.reduceLE, Int.reduceEq, Int.reduceNeg, Int.reduceAdd, Int.reduceSub, Int.reduceMul, reduceIte] at hq
    by_cases hxc : x = c
    · subst hxc
      simp only [decide_true, if_true] at hq
      rw [lst_app h5 (by decide) (by rfl) (by simp only [List.all_cons, List.all_nil, leafOk_str, Bool.and_self]) (by decide) (by omega) (by omega) (by omega)] at hq
      simp only [h7, hw, IA, PA, RA0, RA1, RA2, RA3, RA4, RA5, RA6, RA7, RA8, RA9, RA10, Nat.reduceAdd, Nat.reduceMul, Nat.reduceEqDiff, Nat.reduceLeDiff, Nat.reduceLT, Int.reduceToNat, Int.reduceLT, Int.reduceLE, Int.reduceEq, Int.reduceNeg, Int.reduceAdd, Int.reduceSub, Int.reduceMul, reduceIte] at hq
      have h5' : Lst (appSto σ (nx + 16 + 44 + 24) 9 1 (e 5) (done.length + 1) (strs done ++ [S ((s.take i).drop from_)])) (nx + 16 + 44 + 32) 9 1 (.w (nx + 16 + 44 + 24) 0 (done.length + 1)) (done ++ [(s.take i).drop from_]).length (strs (done ++ [(s.take i).drop from_])) := by
        rw [← strs_append]
        exact (show (done ++ [(s.take i).drop from_]).length = done.length + 1 by simp) ▸ lst_key (by simp [strs_len]) (by omega)
      have := ih (i + 1) (i + 1) k (done ++ [(s.take i).drop from_]) _ _ _ q hd' (by omega) (Nat.le_refl _) (by simpa using hn) (by simpa using hdl) hq h0 h1 (lst_mono h5' (by omega)) rfl rfl
      rw [htk'] at this
      simpa [cutF] using this
    · have hn' : ¬ ((x.toNat : Int) = (c.toNat : Int)) := fun h => hxc (UInt8.toNat_inj.mp (by omega))
      simp only [decide_eq_true_eq] at hq
      rw [if_neg hn'] at hq
      have := ih (i + 1) from_ k done _ _ _ q hd' (by omega) (by omega) (by simpa using hn) (by omega) hq h0 h1 (lst_mono h5 (by omega)) h6 rfl
      rw [htk] at this
      simpa [cutF, hxc] using this
theorem l13Cut_ev (s : List UInt8) (c : UInt8) (hs : s.length < 1000000000) : EE 67 [S s, U c] = some (.o 9 1 (cutL c s).length (strs (cutL c s))) := by
  refine EE_plain T_l13Cut (by decide) (Nat.le_of_ble_eq_true rfl) (by rfl) ?_
  rw [show opt 67 = [] from rfl]
  simp only [bodyOf, Tryd.f67, SA]
  simp only [IA, PA, RA0, RA1, RA2, RA3, RA4, RA5, RA6, RA7, RA8, RA9, RA10, Nat.reduceAdd, Nat.reduceMul, Nat.reduceEqDiff, Nat.reduceLeDiff, Nat.reduceLT, Int.reduceToNat, Int.reduceLT, Int.reduceLE, Int.reduceEq, Int.reduceNeg, Int.reduceAdd, Int.reduceSub, Int.reduceMul, reduceIte]
  generalize hq : roundsE _ _ _ = q
  obtain ⟨e', σ', nx', rfl, h5⟩ := l13Cut_loop s c hs s 0 0 MX [] _ _ _ q rfl (Nat.zero_le _) (Nat.le_refl _) (lt_MX (by omega)) (Nat.le_refl _) hq rfl rfl (lst_nil _ _ _ _) rfl rfl
  simp only [List.nil_append, List.drop_nil, List.take_zero] at h5
  simp only [IA, PA, RA0, RA1, RA2, RA3, RA4, RA5, RA6, RA7, RA8, RA9, RA10, Nat.reduceAdd, Nat.reduceMul, Nat.reduceEqDiff, Nat.reduceLeDiff, Nat.reduceLT, Int.reduceToNat, Int.reduceLT, Int.reduceLE, Int.reduceEq, Int.reduceNeg, Int.reduceAdd, Int.reduceSub, Int.reduceMul, reduceIte]
  have hp : (cutL c s).length ≠ 0 := by rw [cutL, cutF_len]; omega
  rw [give_lst h5 (strs_closed _)]
  exact congrArg some (lstR_pos h5 hp)
end
end Go.Proofs.YtegbkihgnofkfaaDoor.Ev
