/-
Texts Ud to Ud of the work.
-/
import Derived.Test.YtegbkihgnofkfaaDoorZUc
import Derived.Lib.IndexLaws
/-
Code: strings.Split with one byte is the reference's cut.
-/
namespace Go.Proofs.YtegbkihgnofkfaaDoor.Ev
section
set_option linter.unusedVariables false
set_option linter.unusedSimpArgs false
open Go Go.RowKit
set_option linter.unusedVariables false
set_option linter.unusedSimpArgs false

theorem cutF_cur (c : UInt8) : ∀ (l cur : List UInt8) (a : List UInt8) (t : List (List UInt8)), cutF c [] l = a :: t → cutF c cur l = (cur ++ a) :: t
  | [], cur, a, t, h => by
    simp only [cutF, List.cons.injEq] at h ⊢
    obtain ⟨rfl, rfl⟩ := h
    simp
  | x :: l, cur, a, t, h => by
    simp only [cutF] at h ⊢
    by_cases hx : x = c
    · rw [if_pos hx, List.cons.injEq] at h
      rw [if_pos hx]
      obtain ⟨rfl, rfl⟩ := h
      simp
    · rw [if_neg hx] at h ⊢
      obtain ⟨b, u, hb⟩ : ∃ b u, cutF c [] l = b :: u := by
        have := cutF_len c l []
        cases h2 : cutF c [] l with
        | nil => rw [h2] at this; simp at this
        | cons b u => exact ⟨b, u, rfl⟩
      rw [cutF_cur c l _ b u hb, List.nil_append] at h
      rw [cutF_cur c l _ b u hb]
      obtain ⟨rfl, rfl⟩ := List.cons.inj h
      simp
theorem cutL_cons (c : UInt8) (l : List UInt8) : ∃ a t, cutL c l = a :: t := by
  have := cutF_len c l []
  cases h2 : cutF c [] l with
  | nil => rw [h2] at this; simp at this
  | cons b u => exact ⟨b, u, h2⟩
theorem cutL_none (c : UInt8) : ∀ (l : List UInt8), Lib.indexByte l c = -1 → cutL c l = [l] ∧ l.count c = 0
  | [], _ => ⟨rfl, rfl⟩
  | x :: l, h => by
    unfold Lib.indexByte at h
    by_cases hx : x = c
    · subst hx
      simp at h
    · have hb : ¬ ((x == c) = true) := by simpa using hx
      rw [if_neg hb] at h
      have h' : Lib.indexByte l c = -1 := by
        split at h
        · rename_i h2; simpa using h2
        · have := Lib.indexByte_ge l c; omega
      obtain ⟨h1, h2⟩ := cutL_none c l h'
      refine ⟨?_, by rw [List.count_cons_of_ne hx, h2]⟩
      rw [cutL, cutF, if_neg hx, cutF_cur c l _ l [] h1]
      rfl
theorem cutL_some (c : UInt8) : ∀ (l : List UInt8) (o : Nat), Lib.indexByte l c = (o : Int) → o < l.length ∧ cutL c l = l.take o :: cutL c (l.drop (o + 1)) ∧ l.count c = (l.drop (o + 1)).count c + 1
  | [], o, h => by simp only [Lib.indexByte] at h; omega
  | x :: l, o, h => by
    unfold Lib.indexByte at h
    by_cases hx : x = c
    · subst hx
      simp only [beq_self_eq_true, if_true] at h
      obtain rfl : o = 0 := by omega
      refine ⟨by simp, ?_, by simp⟩
      rw [cutL, cutF, if_pos rfl]
      rfl
    · have hb : ¬ ((x == c) = true) := by simpa using hx
      rw [if_neg hb] at h
      split at h
      · omega
      · obtain ⟨p, rfl⟩ : ∃ p, o = p + 1 := ⟨o - 1, by have := Lib.indexByte_ge l c; rename_i h3; simp at h3; omega⟩
        obtain ⟨h0, h1, h2⟩ := cutL_some c l p (by omega)
        refine ⟨by simpa using h0, ?_, ?_⟩
        · rw [cutL, cutF, if_neg hx, cutF_cur c l _ _ _ h1]
          rfl
        · rw [List.count_cons_of_ne hx, h2]
          rfl
theorem index_ev (l : List UInt8) (c : UInt8) : EE 112 [S l, S [c]] = some (N (Lib.indexByte l c)) := EE_hand rfl
theorem count_ev (l : List UInt8) (c : UInt8) : EE 111 [S l, S [c]] = some (N (l.count c : Nat)) := EE_hand rfl
theorem zrow_one (n : Nat) (z : AV) : zrow (n * 1) 1 [z] = List.replicate n z := by
  unfold zrow
  refine List.ext_getElem (by simp) fun i h1 h2 => ?_
  simp [Nat.mod_one]
theorem T_genSplit : TT 85 = some (Tryd.f85, bodyOf Tryd.f85) := by kernel_rfl
theorem genSplit_loop (c : UInt8) : ∀ (d : Nat) (s : List UInt8) (n k : Nat) (done : List (List UInt8)) (id : Nat) (e : Nat → AV) (σ : Sto) (nx : Nat) (q : Option (Ex × St)),
    s.count c = d → s.length < 1000000000 → n < 1000000000 → d < k → done.length + d + 1 = n → roundsE (evC II EE (withOpt [] pf) MX (bodyL Tryd.f85 0)) k ⟨e, σ, nx⟩ = q →
    e 0 = S s → e 1 = S [c] → e 2 = N 0 → e 3 = N ((n - 1 : Nat) : Int) → e 9 = .w id 0 n → e 10 = N done.length → σ id = some (.row 9 1 n (strs done ++ List.replicate (d + 1) (S []))) →
    ∃ e' σ' nx' done' s', q = some (.exit 0, ⟨e', σ', nx'⟩) ∧ e' 0 = S s' ∧ e' 9 = .w id 0 n ∧ e' 10 = N ((n - 1 : Nat) : Int) ∧ done'.length = n - 1 ∧ σ' id = some (.row 9 1 n (strs done' ++ [S []])) ∧ done ++ cutL c s = done' ++ [s'] := by
  intro d
  induction d with
  | zero =>
    intro s n k done id e σ nx q hd hs hn hk hl hq h0 h1 h2 h3 h9 h10 hσ
    obtain ⟨j, rfl⟩ : ∃ j, k = j + 1 := ⟨k - 1, by omega⟩
    have hlen : done.length = n - 1 := by omega
    rw [rounds_rd] at hq
    simp only [bodyL, bodyOf, Tryd.f85, SA, loops, List.nil_append, List.append_nil, List.cons_append, List.getD_cons_zero, List.getD_cons_succ] at hq
    have hc : ¬ (((n - 1 : Nat) : Int) < ((n - 1 : Nat) : Int)) := Int.lt_irrefl _
    rw [hlen] at h10
    simp only [h3, h10, hc, RR, IA, PA, RA0, RA1, RA2, RA3, RA4, RA5, RA6, RA7, RA8, RA9, RA10, Nat.reduceAdd, Nat.reduceMul, Nat.reduceEqDiff, Nat.reduceLeDiff, Nat.reduceLT, Int.reduceToNat, Int.reduceLT, Int.reduceLE, Int.reduceEq, Int.reduceNeg, Int.reduceAdd, Int.reduceSub, Int.reduceMul, reduceIte] at hq
    refine ⟨_, _, _, done, s, hq.symm, h0, h9, h10, hlen, hσ, ?_⟩
    rw [(cutL_none c s ?_).1]
    rcases Int.lt_or_le (Lib.indexByte s c) 0 with h | h
    · have := Lib.indexByte_ge s c; omega
    · obtain ⟨o, ho⟩ := Int.eq_ofNat_of_zero_le h
      have := (cutL_some c s o ho).2.2
      omega
  | succ d ih =>
    intro s n k done id e σ nx q hd hs hn hk hl hq h0 h1 h2 h3 h9 h10 hσ
    obtain ⟨j, rfl⟩ : ∃ j, k = j + 1 := ⟨k - 1, by omega⟩
    obtain ⟨o, ho⟩ : ∃ o : Nat, Lib.indexByte s c = (o : Int) := by
      rcases Int.lt_or_le (Lib.indexByte s c) 0 with h | h
      · have h' : Lib.indexByte s c = -1 := by have := Lib.indexByte_ge s c; omega
        have := (cutL_none c s h').2
        omega
      · exact Int.eq_ofNat_of_zero_le h
    obtain ⟨hol, hcut, hcnt⟩ := cutL_some c s o ho
    rw [rounds_rd] at hq
    simp only [bodyL, bodyOf, Tryd.f85, SA, loops, List.nil_append, List.append_nil, List.cons_append, List.getD_cons_zero, List.getD_cons_succ] at hq
    have hc : ((done.length : Int) < ((n - 1 : Nat) : Int)) := by omega
    have hc2 : ((done.length : Int) < (n : Int)) := by omega
    have hz : (0 : Int) ≤ (done.length : Int) := by omega
    have hoz : ¬ ((o : Int) < 0) := by omega
    have hoz' : (0 : Int) ≤ (o : Int) := by omega
    have hos : ((o : Int) ≤ (s.length : Int)) := by omega
    have hos1 : (((o + 1 : Nat) : Int) ≤ (s.length : Int)) := by omega
    have hos2 : (0 : Int) ≤ ((o + 1 : Nat) : Int) := by omega
    have hw0 : IntKind.i64.wrap ((o : Int) + 0) = (o : Int) := by rw [wrap64 (by omega) (by omega)]; rfl
    have hw1 : IntKind.i64.wrap ((o : Int) + 1) = ((o + 1 : Nat) : Int) := by rw [wrap64 (by omega) (by omega)]; rfl
    have hw : IntKind.i64.wrap ((done.length : Int) + 1) = ((done.length + 1 : Nat) : Int) := by rw [wrap64 (by omega) (by omega)]; rfl
    simp only [h0, h1, h2, h3, h9, h10, hσ, index_ev, ho, hc, hc2, hz, hoz, hoz', hos, hos1, hos2, hw0, hw1, hw, Int.toNat_natCast, RR, IA, PA, RA0, RA1, RA2, RA3, RA4, RA5, RA6, RA7, RA8, RA9, RA10, Nat.reduceAdd, Nat.reduceMul, Nat.reduceEqDiff, Nat.reduceLeDiff, Nat.reduceLT, Int.reduceToNat, Int.reduceLT, Int.reduceLE, Int.reduceEq, Int.reduceNeg, Int.reduceAdd, Int.reduceSub, Int.reduceMul, reduceIte] at hq
    rw [if_pos (by rw [List.length_append, strs_len, List.length_replicate]; omega)] at hq
    have hrow : (strs done ++ List.replicate (d + 1 + 1) (S [])).take done.length ++ [S (s.take o)] ++ (strs done ++ List.replicate (d + 1 + 1) (S [])).drop (done.length + 1) = strs (done ++ [s.take o]) ++ List.replicate (d + 1) (S []) := by
      rw [List.take_append_of_le_length (by rw [strs_len]; omega), List.take_of_length_le (by rw [strs_len]; omega), List.drop_append, List.drop_eq_nil_of_le (by rw [strs_len]; omega), strs_len, List.nil_append, show done.length + 1 - done.length = 1 from by omega, List.drop_replicate, ← strs_append]
      rfl
    have hdl : (s.drop (o + 1)).length ≤ s.length := by simp
    obtain ⟨e', σ', nx', done', s', rfl, a0, a9, a10, al, aσ, ac⟩ := ih (s.drop (o + 1)) n j (done ++ [s.take o]) id _ _ _ q (by omega) (by omega) hn (by omega) (by simp; omega) hq (by first | rfl | simp) h1 h2 h3 h9 (by simp) (by simp only [upd, if_true, ← hrow])
    refine ⟨e', σ', nx', done', s', rfl, a0, a9, a10, al, aσ, ?_⟩
    rw [hcut, ← ac, List.append_assoc]
    rfl
theorem genSplit_ev (s : List UInt8) (c : UInt8) (hs : s.length < 900000000) : EE 85 [S s, S [c], N 0, N (-1)] = some (.o 9 1 (cutL c s).length (strs (cutL c s))) := by
  refine EE_plain T_genSplit (by decide) (Nat.le_of_ble_eq_true rfl) (by rfl) ?_
  rw [show opt 85 = [] from rfl]
  simp only [bodyOf, Tryd.f85, SA]
  have hcl : s.count c ≤ s.length := List.count_le_length
  have hw : IntKind.i64.wrap (((s.count c : Nat) : Int) + 1) = ((s.count c + 1 : Nat) : Int) := by rw [wrap64 (by omega) (by omega)]; rfl
  have hw2 : IntKind.i64.wrap (((s.count c + 1 : Nat) : Int) - 1) = ((s.count c + 1 - 1 : Nat) : Int) := by rw [wrap64 (by omega) (by omega)]; omega
  have hw3 : IntKind.i64.wrap ((s.length : Int) + 1) = ((s.length + 1 : Nat) : Int) := by rw [wrap64 (by omega) (by omega)]; rfl
  have hm : ¬ (((s.length + 1 : Nat) : Int) < ((s.count c + 1 : Nat) : Int)) := by omega
  have hz : (0 : Int) ≤ ((s.count c + 1 : Nat) : Int) := by omega
  have hl1 : (s.count c + 1) * 16 ≤ 140737488355328 := by omega
  have hl2 : s.count c + 1 ≤ 140737488355328 := by omega
  have hce : ([c] == ([] : List UInt8)) = false := rfl
  simp only [hce, count_ev, hw, hw2, hw3, hm, hz, hl1, hl2, mkK_sl, Int.le_refl, Int.toNat_natCast, RR, IA, PA, RA0, RA1, RA2, RA3, RA4, RA5, RA6, RA7, RA8, RA9, RA10, Nat.reduceAdd, Nat.reduceMul, Nat.reduceEqDiff, Nat.reduceLeDiff, Nat.reduceLT, Int.reduceToNat, Int.reduceLT, Int.reduceLE, Int.reduceEq, Int.reduceNeg, Int.reduceAdd, Int.reduceSub, Int.reduceMul, reduceIte]
  generalize hq : roundsE _ _ _ = q
  obtain ⟨e', σ', nx', done', s', rfl, a0, a9, a10, al, aσ, ac⟩ := genSplit_loop c (s.count c) s (s.count c + 1) MX [] _ _ _ _ q rfl (by omega) (by omega) (lt_MX (by omega)) (by simp) hq rfl rfl rfl rfl rfl rfl (by
    simp only [upd, if_true]
    rw [show strs [] = [] from rfl, List.nil_append, ← zrow_one, Nat.mul_one]
    rfl)
  rw [List.nil_append] at ac
  have hlen : (cutL c s).length = s.count c + 1 := by rw [cutL, cutF_len]
  have hz1 : (0 : Int) ≤ ((s.count c + 1 - 1 : Nat) : Int) := by omega
  have hz2 : ((s.count c + 1 - 1 : Nat) : Int) < ((s.count c + 1 : Nat) : Int) := by omega
  have hw4 : IntKind.i64.wrap (((s.count c + 1 - 1 : Nat) : Int) + 1) = ((s.count c + 1 : Nat) : Int) := by rw [wrap64 (by omega) (by omega)]; omega
  simp only [a0, a9, a10, aσ, hz, hz1, hz2, hw4, Int.le_refl, Int.toNat_natCast, RR, IA, PA, RA0, RA1, RA2, RA3, RA4, RA5, RA6, RA7, RA8, RA9, RA10, Nat.reduceAdd, Nat.reduceMul, Nat.reduceEqDiff, Nat.reduceLeDiff, Nat.reduceLT, Int.reduceToNat, Int.reduceLT, Int.reduceLE, Int.reduceEq, Int.reduceNeg, Int.reduceAdd, Int.reduceSub, Int.reduceMul, reduceIte]
  rw [if_pos (by rw [List.length_append, strs_len]; simp; omega)]
  have hrow : (strs done' ++ [S []]).take (s.count c + 1 - 1) ++ [S s'] ++ (strs done' ++ [S []]).drop (s.count c + 1 - 1 + 1) = strs (done' ++ [s']) := by
    rw [List.take_append_of_le_length (by rw [strs_len]; omega), List.take_of_length_le (by rw [strs_len]; omega), List.drop_eq_nil_of_le (by rw [List.length_append, strs_len]; simp; omega), List.append_nil, ← strs_append]
    rfl
  simp only [cut_w_hi, hz, Int.le_refl, Int.toNat_natCast, hrow, RR, IA, PA, RA0, RA1, RA2, RA3, RA4, RA5, RA6, RA7, RA8, RA9, RA10, Nat.reduceAdd, Nat.reduceMul, Nat.reduceEqDiff, Nat.reduceLeDiff, Nat.reduceLT, Int.reduceToNat, Int.reduceLT, Int.reduceLE, Int.reduceEq, Int.reduceNeg, Int.reduceAdd, Int.reduceSub, Int.reduceMul, reduceIte]
  rw [← ac, ← hlen]
  exact give_row (by simp only [upd, if_true]) (strs_closed _)
theorem T_Split : TT 52 = some (Tryd.f52, bodyOf Tryd.f52) := by kernel_rfl
theorem split_ev (s : List UInt8) (c : UInt8) (hs : s.length < 900000000) : EE 52 [S s, S [c]] = some (.o 9 1 (cutL c s).length (strs (cutL c s))) := by
  refine EE_plain T_Split (by decide) (Nat.le_of_ble_eq_true rfl) (by rfl) ?_
  rw [show opt 52 = [] from rfl]
  simp only [bodyOf, Tryd.f52, SA]
  simp only [genSplit_ev s c hs, RR, IA, PA, RA0, RA1, RA2, RA3, RA4, RA5, RA6, RA7, RA8, RA9, RA10, Nat.reduceAdd, Nat.reduceMul, Nat.reduceEqDiff, Nat.reduceLeDiff, Nat.reduceLT, Int.reduceToNat, Int.reduceLT, Int.reduceLE, Int.reduceEq, Int.reduceNeg, Int.reduceAdd, Int.reduceSub, Int.reduceMul, reduceIte]
  exact give_row (by simp only [upd, if_true]) (strs_closed _)
end
end Go.Proofs.YtegbkihgnofkfaaDoor.Ev
