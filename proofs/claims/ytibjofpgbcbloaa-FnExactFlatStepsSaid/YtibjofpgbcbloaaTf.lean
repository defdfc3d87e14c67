/-
The instructions of a term: both lists are the same.
-/
import Derived.Test.YtibjofpgbcbloaaTe
namespace Go.Proofs.Ytibjofpgbcbloaa.Ev
open Go Go.RowKit
set_option linter.unusedVariables false
set_option linter.unusedSimpArgs false

/-- The instructions of a term. -/
def listT : T → List (List UInt8)
  | .dig c => [[c]]
  | .var c => [[c]]
  | .one s x => listT x ++ [[s]]
  | .two s x y => listT x ++ listT y ++ [[s]]
  | .loop s v x y => listT x ++ [[s, v]] ++ listT y ++ [[s + 2]]
/-- Terms as they are read. -/
def WF : T → Prop
  | .dig c => isDig c = true
  | .var c => isVar c = true
  | .one s x => isOne s = true ∧ WF x
  | .two s x y => isTwo s = true ∧ WF x ∧ WF y
  | .loop s v x y => (s = 91 ∨ s = 123) ∧ isLV v = true ∧ WF x ∧ WF y
theorem rd_wf : ∀ (n : Nat) (s : List UInt8) (t : T) (r : List UInt8), rd n s = some (t, r) → WF t ∧ (listT t).length + r.length ≤ s.length := by
  intro n
  induction n with
  | zero => intro s t r h; cases h
  | succ n ih =>
    intro s t r h
    cases s with
    | nil => cases h
    | cons c s =>
      simp only [rd] at h
      split at h
      · rename_i hv
        simp only [Option.some.injEq, Prod.mk.injEq] at h; obtain ⟨rfl, rfl⟩ := h
        exact ⟨hv, by simp [listT]; omega⟩
      split at h
      · rename_i hv
        simp only [Option.some.injEq, Prod.mk.injEq] at h; obtain ⟨rfl, rfl⟩ := h
        exact ⟨hv, by simp [listT]; omega⟩
      split at h
      · rename_i hv
        split at h
        · rename_i x r1 h1
          simp only [Option.some.injEq, Prod.mk.injEq] at h; obtain ⟨rfl, rfl⟩ := h
          have := ih _ _ _ h1
          exact ⟨⟨hv, this.1⟩, by simp [listT]; omega⟩
        · cases h
      split at h
      · unfold rdTwo at h
        split at h
        · rename_i x q r2 h1
          split at h
          · rename_i hv
            split at h
            · rename_i y z r4 h2
              split at h
              · simp only [Option.some.injEq, Prod.mk.injEq] at h; obtain ⟨rfl, rfl⟩ := h
                have k1 := ih _ _ _ h1
                have k2 := ih _ _ _ h2
                refine ⟨⟨hv, k1.1, k2.1⟩, ?_⟩
                simp only [listT, List.length_append, List.length_cons, List.length_nil] at *
                omega
              · cases h
            · cases h
          · cases h
        · cases h
      split at h
      · rename_i hc
        unfold rdLoop at h
        split at h
        · rename_i v d r1
          split at h
          · rename_i hv
            split at h
            · rename_i x q r2 h1
              split at h
              · split at h
                · rename_i y z r4 h2
                  split at h
                  · simp only [Option.some.injEq, Prod.mk.injEq] at h; obtain ⟨rfl, rfl⟩ := h
                    have k1 := ih _ _ _ h1
                    have k2 := ih _ _ _ h2
                    refine ⟨⟨hc, hv.1, k1.1, k2.1⟩, ?_⟩
                    simp only [listT, List.length_append, List.length_cons, List.length_nil] at *
                    omega
                  · cases h
                · cases h
              · cases h
            · cases h
          · cases h
        · cases h
      · cases h
theorem rdT_wf {t : List UInt8} {x : T} (h : rdT t = some x) : WF x ∧ (listT x).length ≤ 80 ∧ t.length ≤ 80 := by
  unfold rdT at h
  split at h
  · cases h
  · rename_i hl
    split at h
    · rename_i y hy
      obtain rfl := Option.some.inj h
      have := rd_wf _ _ _ _ hy
      simp only [List.length_nil] at this
      exact ⟨this.1, by omega, by omega⟩
    · cases h

theorem T_instructions : TT 24 = some (Try.f24, bodyOf Try.f24) := by kernel_rfl
theorem loop_enc (t : T) : EE 36 [encP t] = some (B (match t with | .loop .. => true | _ => false)) := by
  cases t with
  | dig c => exact loop_ev _ _ _ rfl
  | var c => exact loop_ev _ _ _ rfl
  | one s x => exact loop_ev _ _ _ (by simp only [closed, closedL, encP_closed, Bool.and_self])
  | two s x y => exact loop_ev _ _ _ (by simp only [closed, closedL, encP_closed, Bool.and_self])
  | loop s v x y => exact loop_ev _ _ _ (by simp only [closed, closedL, encP_closed, Bool.and_self])
set_option maxHeartbeats 4000000 in
theorem instructions_ev : ∀ t, WF t → (listT t).length ≤ 1000000 → EE 24 [encP t] = some (.o 9 1 (listT t).length (strs (listT t))) := by
  intro t
  induction t with
  | dig c =>
    intro hw hb
    refine EE_few 3 T_instructions (by decide) (Nat.le_of_ble_eq_true rfl) (by simp only [closedL, encP_closed, Bool.and_self]) ?_
    rw [show opt 24 = [] from rfl]
    simp only [bodyOf, Try.f24, SA]
    have hl := loop_enc (.dig c)
    simp only [encP] at hl ⊢
    simp only [hl, rounds_rd, RR, IA, PA, RA0, RA1, RA2, RA3, RA4, RA5, RA6, RA7, RA8, RA9, Nat.reduceAdd, Nat.reduceMul, Nat.reduceEqDiff, Nat.reduceLeDiff, Nat.reduceLT, Int.reduceToNat, Int.reduceLT, Int.reduceLE, Int.reduceEq, Int.reduceNeg, Int.reduceAdd, Int.reduceSub, Int.reduceMul, reduceIte]
    rw [app_s (by decide) rfl rfl rfl (by omega) (by omega) (.inl (by decide))]
    simp only [RR, IA, PA, RA0, RA1, RA2, RA3, RA4, RA5, RA6, RA7, RA8, RA9, Nat.reduceAdd, Nat.reduceMul, Nat.reduceEqDiff, Nat.reduceLeDiff, Nat.reduceLT, Int.reduceToNat, Int.reduceLT, Int.reduceLE, Int.reduceEq, Int.reduceNeg, Int.reduceAdd, Int.reduceSub, Int.reduceMul, reduceIte]
    exact give_row (by rfl) rfl
  | var c =>
    intro hw hb
    refine EE_few 3 T_instructions (by decide) (Nat.le_of_ble_eq_true rfl) (by simp only [closedL, encP_closed, Bool.and_self]) ?_
    rw [show opt 24 = [] from rfl]
    simp only [bodyOf, Try.f24, SA]
    have hl := loop_enc (.var c)
    simp only [encP] at hl ⊢
    simp only [hl, rounds_rd, RR, IA, PA, RA0, RA1, RA2, RA3, RA4, RA5, RA6, RA7, RA8, RA9, Nat.reduceAdd, Nat.reduceMul, Nat.reduceEqDiff, Nat.reduceLeDiff, Nat.reduceLT, Int.reduceToNat, Int.reduceLT, Int.reduceLE, Int.reduceEq, Int.reduceNeg, Int.reduceAdd, Int.reduceSub, Int.reduceMul, reduceIte]
    rw [app_s (by decide) rfl rfl rfl (by omega) (by omega) (.inl (by decide))]
    simp only [RR, IA, PA, RA0, RA1, RA2, RA3, RA4, RA5, RA6, RA7, RA8, RA9, Nat.reduceAdd, Nat.reduceMul, Nat.reduceEqDiff, Nat.reduceLeDiff, Nat.reduceLT, Int.reduceToNat, Int.reduceLT, Int.reduceLE, Int.reduceEq, Int.reduceNeg, Int.reduceAdd, Int.reduceSub, Int.reduceMul, reduceIte]
    exact give_row (by rfl) rfl
  | one s x ih =>
    intro hw hb
    refine EE_few 3 T_instructions (by decide) (Nat.le_of_ble_eq_true rfl) (by simp only [closedL, encP_closed, Bool.and_self]) ?_
    rw [show opt 24 = [] from rfl]
    simp only [bodyOf, Try.f24, SA]
    simp only [listT, List.length_append, List.length_cons, List.length_nil] at hb
    have hl := loop_enc (.one s x)
    have hx := ih hw.2 (by omega)
    simp only [encP] at hl ⊢
    simp only [hl, hx, rounds_rd, scW_row, encP_closed, RR, IA, PA, RA0, RA1, RA2, RA3, RA4, RA5, RA6, RA7, RA8, RA9, Nat.reduceAdd, Nat.reduceMul, Nat.reduceEqDiff, Nat.reduceLeDiff, Nat.reduceLT, Int.reduceToNat, Int.reduceLT, Int.reduceLE, Int.reduceEq, Int.reduceNeg, Int.reduceAdd, Int.reduceSub, Int.reduceMul, reduceIte]
    rw [app_s (by decide) (by simp only [strs_len, Nat.mul_one]) (strs_leaf _) rfl (by omega) (by omega) (.inr rfl)]
    simp only [hl, rounds_rd, encP_closed, RR, IA, PA, RA0, RA1, RA2, RA3, RA4, RA5, RA6, RA7, RA8, RA9, Nat.reduceAdd, Nat.reduceMul, Nat.reduceEqDiff, Nat.reduceLeDiff, Nat.reduceLT, Int.reduceToNat, Int.reduceLT, Int.reduceLE, Int.reduceEq, Int.reduceNeg, Int.reduceAdd, Int.reduceSub, Int.reduceMul, reduceIte]
    rw [app_w (by rfl) (by decide) rfl rfl (by simp only [strs_len, Nat.mul_one]) (by omega) (by omega) (by decide)]
    simp only [strs_one, strs_append, RR, IA, PA, RA0, RA1, RA2, RA3, RA4, RA5, RA6, RA7, RA8, RA9, Nat.reduceAdd, Nat.reduceMul, Nat.reduceEqDiff, Nat.reduceLeDiff, Nat.reduceLT, Int.reduceToNat, Int.reduceLT, Int.reduceLE, Int.reduceEq, Int.reduceNeg, Int.reduceAdd, Int.reduceSub, Int.reduceMul, reduceIte]
    rw [give_row (by rfl) (strs_closed _)]
    simp only [listT, List.length_append, List.length_cons, List.length_nil]
  | two s x y ihx ihy =>
    intro hw hb
    refine EE_few 3 T_instructions (by decide) (Nat.le_of_ble_eq_true rfl) (by simp only [closedL, encP_closed, Bool.and_self]) ?_
    rw [show opt 24 = [] from rfl]
    simp only [bodyOf, Try.f24, SA]
    simp only [listT, List.length_append, List.length_cons, List.length_nil] at hb
    have hl := loop_enc (.two s x y)
    have hx := ihx hw.2.1 (by omega)
    have hy := ihy hw.2.2 (by omega)
    simp only [encP] at hl ⊢
    simp only [hl, hx, rounds_rd, scW_row, encP_closed, RR, IA, PA, RA0, RA1, RA2, RA3, RA4, RA5, RA6, RA7, RA8, RA9, Nat.reduceAdd, Nat.reduceMul, Nat.reduceEqDiff, Nat.reduceLeDiff, Nat.reduceLT, Int.reduceToNat, Int.reduceLT, Int.reduceLE, Int.reduceEq, Int.reduceNeg, Int.reduceAdd, Int.reduceSub, Int.reduceMul, reduceIte]
    rw [app_s (by decide) (by simp only [strs_len, Nat.mul_one]) (strs_leaf _) rfl (by omega) (by omega) (.inr rfl)]
    simp only [hl, hy, rounds_rd, scW_row, encP_closed, RR, IA, PA, RA0, RA1, RA2, RA3, RA4, RA5, RA6, RA7, RA8, RA9, Nat.reduceAdd, Nat.reduceMul, Nat.reduceEqDiff, Nat.reduceLeDiff, Nat.reduceLT, Int.reduceToNat, Int.reduceLT, Int.reduceLE, Int.reduceEq, Int.reduceNeg, Int.reduceAdd, Int.reduceSub, Int.reduceMul, reduceIte]
    rw [app_w (by rfl) (by decide) (by simp only [strs_len, Nat.mul_one]) (strs_leaf _) (by simp only [strs_len, Nat.mul_one]) (by omega) (by omega) (by decide)]
    simp only [hl, rounds_rd, encP_closed, RR, IA, PA, RA0, RA1, RA2, RA3, RA4, RA5, RA6, RA7, RA8, RA9, Nat.reduceAdd, Nat.reduceMul, Nat.reduceEqDiff, Nat.reduceLeDiff, Nat.reduceLT, Int.reduceToNat, Int.reduceLT, Int.reduceLE, Int.reduceEq, Int.reduceNeg, Int.reduceAdd, Int.reduceSub, Int.reduceMul, reduceIte]
    rw [app_w (by rfl) (by decide) rfl rfl (by simp only [List.length_append, strs_len, Nat.mul_one]) (by omega) (by omega) (by decide)]
    simp only [strs_one, strs_append, RR, IA, PA, RA0, RA1, RA2, RA3, RA4, RA5, RA6, RA7, RA8, RA9, Nat.reduceAdd, Nat.reduceMul, Nat.reduceEqDiff, Nat.reduceLeDiff, Nat.reduceLT, Int.reduceToNat, Int.reduceLT, Int.reduceLE, Int.reduceEq, Int.reduceNeg, Int.reduceAdd, Int.reduceSub, Int.reduceMul, reduceIte]
    rw [give_row (by rfl) (strs_closed _)]
    simp only [listT, List.length_append, List.length_cons, List.length_nil]
  | loop s v x y ihx ihy =>
    intro hw hb
    refine EE_few 3 T_instructions (by decide) (Nat.le_of_ble_eq_true rfl) (by simp only [closedL, encP_closed, Bool.and_self]) ?_
    rw [show opt 24 = [] from rfl]
    simp only [bodyOf, Try.f24, SA]
    simp only [listT, List.length_append, List.length_cons, List.length_nil] at hb
    have hl := loop_enc (.loop s v x y)
    have hx := ihx hw.2.2.1 (by omega)
    have hy := ihy hw.2.2.2 (by omega)
    have he : EE 37 [S [s]] = some (S [s + 2]) := by
      rw [ends_ev]
      rcases hw.1 with h | h <;> rw [h] <;> rfl
    simp only [encP] at hl ⊢
    simp only [hl, hx, rounds_rd, scW_row, encP_closed, RR, IA, PA, RA0, RA1, RA2, RA3, RA4, RA5, RA6, RA7, RA8, RA9, Nat.reduceAdd, Nat.reduceMul, Nat.reduceEqDiff, Nat.reduceLeDiff, Nat.reduceLT, Int.reduceToNat, Int.reduceLT, Int.reduceLE, Int.reduceEq, Int.reduceNeg, Int.reduceAdd, Int.reduceSub, Int.reduceMul, reduceIte]
    rw [app_s (by decide) (by simp only [strs_len, Nat.mul_one]) (strs_leaf _) rfl (by omega) (by omega) (.inr rfl)]
    simp only [hl, hy, str_add, rounds_rd, scW_row, encP_closed, RR, IA, PA, RA0, RA1, RA2, RA3, RA4, RA5, RA6, RA7, RA8, RA9, Nat.reduceAdd, Nat.reduceMul, Nat.reduceEqDiff, Nat.reduceLeDiff, Nat.reduceLT, Int.reduceToNat, Int.reduceLT, Int.reduceLE, Int.reduceEq, Int.reduceNeg, Int.reduceAdd, Int.reduceSub, Int.reduceMul, reduceIte]
    rw [app_w (by rfl) (by decide) rfl rfl (by simp only [strs_len, Nat.mul_one]) (by omega) (by omega) (by decide)]
    simp only [hl, hy, str_add, rounds_rd, scW_row, encP_closed, RR, IA, PA, RA0, RA1, RA2, RA3, RA4, RA5, RA6, RA7, RA8, RA9, Nat.reduceAdd, Nat.reduceMul, Nat.reduceEqDiff, Nat.reduceLeDiff, Nat.reduceLT, Int.reduceToNat, Int.reduceLT, Int.reduceLE, Int.reduceEq, Int.reduceNeg, Int.reduceAdd, Int.reduceSub, Int.reduceMul, reduceIte]
    rw [app_w (by rfl) (by decide) (by simp only [strs_len, Nat.mul_one]) (strs_leaf _) (by simp only [List.length_append, List.length_cons, List.length_nil, strs_len, Nat.mul_one]) (by omega) (by omega) (by decide)]
    simp only [hl, he, rounds_rd, encP_closed, RR, IA, PA, RA0, RA1, RA2, RA3, RA4, RA5, RA6, RA7, RA8, RA9, Nat.reduceAdd, Nat.reduceMul, Nat.reduceEqDiff, Nat.reduceLeDiff, Nat.reduceLT, Int.reduceToNat, Int.reduceLT, Int.reduceLE, Int.reduceEq, Int.reduceNeg, Int.reduceAdd, Int.reduceSub, Int.reduceMul, reduceIte]
    rw [app_w (by rfl) (by decide) rfl rfl (by simp only [List.length_append, List.length_cons, List.length_nil, strs_len, Nat.mul_one]) (by omega) (by omega) (by decide)]
    simp only [strs_one, strs_append, RR, IA, PA, RA0, RA1, RA2, RA3, RA4, RA5, RA6, RA7, RA8, RA9, Nat.reduceAdd, Nat.reduceMul, Nat.reduceEqDiff, Nat.reduceLeDiff, Nat.reduceLT, Int.reduceToNat, Int.reduceLT, Int.reduceLE, Int.reduceEq, Int.reduceNeg, Int.reduceAdd, Int.reduceSub, Int.reduceMul, reduceIte]
    rw [give_row (by rfl) (strs_closed _)]
    simp only [listT, List.length_append, List.length_cons, List.length_nil]
end Go.Proofs.Ytibjofpgbcbloaa.Ev
