/-
Texts Uf to Uf of the work.
-/
import Derived.Test.YtegbkihgnofkfaaDoorZUe
/-
Code: the reference's builder: a term is put onto the stack.
-/
namespace Go.Proofs.YtegbkihgnofkfaaDoor.Ev
section
set_option linter.unusedVariables false
set_option linter.unusedSimpArgs false
open Go Go.RowKit
set_option linter.unusedVariables false
set_option linter.unusedSimpArgs false
def pushR (a : RS) (cell : List AV) : RS := ⟨true, 49, 3, a.n + 1, a.cs ++ cell⟩
theorem push_ok (a b c : RS) (h : BOk a b c) (cell : List AV) (hcl : cell.length = 3) (hlf : cell.all leafOk = true) (hcc : closedL cell = true) :
    EE 115 [lent 101 [rsV a, rsV b, rsV c], .a cell] = some (.t [.t [], .t [lent 101 [rsV (pushR a cell), rsV b, rsV c], .a cell]]) := by
  refine EE_rows (os := [a, b, c]) (xs := [.a cell]) T_push rfl (Nat.le_of_ble_eq_true rfl) (by
    intro o ho
    simp only [List.mem_cons, List.not_mem_nil, or_false] at ho
    rcases ho with rfl | rfl | rfl
    · exact h.ha
    · exact h.hb
    · exact h.hc) (by simp only [List.all_cons, goes, closed, hcc, List.all_nil, Bool.and_self]) ?_
  intro ds σ k L hR hn hσ hL hk1 hk
  obtain ⟨da, db, dc, La, Lb, Lc, rfl, rfl, ra, rb, rc⟩ := rw3 hR
  rw [show opt 115 = [oLow 1, oHi 49] from rfl]
  simp only [bodyOf, Tryd.f115, SA]
  have hk0 : ¬ (0 = k) := by omega
  have h0k : 0 < k := by omega
  have hn' : ∀ r ∈ La ++ (Lb ++ Lc), r ≠ k := fun r hr => by have := (hL r hr).2; omega
  have ra' : ∀ X, Rw (upd σ k X) a da La := fun X => ra.frame fun r hr => upd_ne _ _ _ _ (hn' r (by simp [hr]))
  have hlt : ∀ r ∈ La, r < k + 4 := fun r hr => by have := (hL r (by simp [hr])).2; omega
  have hlst := (ra' (some (.ob 49 cell))).lst hlt
  rw [h.aE, h.aS] at hlst
  have hb4 : k < k + 4 := by omega
  have hb0 : 0 < k + 4 := by omega
  have hct : List.take 3 cell = cell := List.take_of_length_le (by omega)
  have han := h.an
  simp only [hσ, hk0, h0k, hcl, hlf, hb4, hb0, hct, len_rw (ra' _), RR, IA, PA, RA0, RA1, RA2, RA3, RA4, RA5, RA6, RA7, RA8, RA9, RA10, Nat.reduceAdd, Nat.reduceMul, Nat.reduceEqDiff, Nat.reduceLeDiff, Nat.reduceLT, Int.reduceToNat, Int.reduceLT, Int.reduceLE, Int.reduceEq, Int.reduceNeg, Int.reduceAdd, Int.reduceSub, Int.reduceMul, reduceIte]
  rw [lst_app hlst (by decide) (by rfl) (by rfl) (by decide) (by omega) (by omega) (by omega)]
  have h4n : ∀ id lo n, da = .w id lo n → id ≠ 0 ∧ id ≠ k ∧ id < k := by
    intro id lo n hda
    rcases ra with ⟨h0, ⟨hb, rfl, rfl⟩ | ⟨r, hb, rfl, rfl, hσr⟩⟩
    · cases hda
    · cases hda
      have := hL id (by simp)
      omega
  obtain ⟨τ, hτ⟩ : ∃ τ, τ = appSto (upd σ k (some (.ob 49 cell))) (k + 4 + 28) 49 3 da (a.n + 1) (a.cs ++ [ofC0 (.int .u8 0), ofC0 (.int .u8 0), ofC0 (.slice none 0 0)]) := ⟨_, rfl⟩
  have t1 : τ (k + 4 + 28) = some (.row 49 3 (a.n + 1) (a.cs ++ [ofC0 (.int .u8 0), ofC0 (.int .u8 0), ofC0 (.slice none 0 0)])) := by rw [hτ]; exact appSto_key ..
  have t2 : ∀ i, i ≠ k + 4 + 28 → (∀ id lo n, da = .w id lo n → i ≠ id) → τ i = upd σ k (some (.ob 49 cell)) i := by rw [hτ]; exact fun i h1 h2 => appSto_other h1 h2
  rw [← hτ]
  have t3 : τ 0 = some (.ob 101 [da, db, dc]) := by
    rw [t2 0 (by omega) (fun id lo n hda => (h4n id lo n hda).1.symm), upd, if_neg hk0, hσ]
  clear hτ
  simp only [t1, t3, hcl, hlf, hb4, hb0, hct, RR, IA, PA, RA0, RA1, RA2, RA3, RA4, RA5, RA6, RA7, RA8, RA9, RA10, Nat.reduceAdd, Nat.reduceMul, Nat.reduceEqDiff, Nat.reduceLeDiff, Nat.reduceLT, Int.reduceToNat, Int.reduceLT, Int.reduceLE, Int.reduceEq, Int.reduceNeg, Int.reduceAdd, Int.reduceSub, Int.reduceMul, reduceIte]
  have hla : a.cs.length = a.n * 3 := by have := h.ha.1; rw [h.aS] at this; exact this
  rw [if_pos (by omega), if_pos (by simp), if_pos (by simp only [List.length_append, List.length_cons, List.length_nil]; omega)]
  have hcells : List.take (a.n * 3) (a.cs ++ [ofC0 (.int .u8 0), ofC0 (.int .u8 0), ofC0 (.slice none 0 0)]) ++ cell ++ List.drop (a.n * 3 + 3) (a.cs ++ [ofC0 (.int .u8 0), ofC0 (.int .u8 0), ofC0 (.slice none 0 0)]) = a.cs ++ cell := by
    rw [← hla, List.take_append_of_le_length (Nat.le_refl _), List.take_length, List.drop_eq_nil_of_le (by simp), List.append_nil]
  rw [hcells]
  have hfr : ∀ r ∈ Lb ++ Lc, ¬ (r = 0) ∧ ¬ (r = k) ∧ ¬ (r = k + 4 + 28) ∧ (∀ id lo n, da = .w id lo n → r ≠ id) := fun r hr => by
    have h1 := hL r (List.mem_append_right _ hr)
    refine ⟨by omega, by omega, by omega, fun id lo n hda he => ?_⟩
    rcases ra with ⟨h0, ⟨hb, rfl, rfl⟩ | ⟨r', hb, rfl, rfl, hσr⟩⟩
    · cases hda
    · cases hda
      subst he
      have := (List.nodup_cons.1 hn).2
      simp only [List.singleton_append] at this
      exact (List.nodup_cons.1 this).1 hr
  have hfr2 : ∀ (X Y : Slot) r, r ∈ Lb ++ Lc → upd (upd τ (k + 4 + 28) (some X)) 0 (some Y) r = σ r := fun X Y r hr => by
    obtain ⟨q1, q2, q3, q4⟩ := hfr r hr
    simp only [upd, if_neg q1, if_neg q3]
    rw [t2 r q3 q4, upd, if_neg q2]
  have hkk : ¬ (k + 4 + 28 = 0) := by omega
  refine out_rows_none (ds := [.w (k + 4 + 28) 0 (a.n + 1), db, dc]) (ps := [rsV (pushR a cell), rsV b, rsV c]) (L := [k + 4 + 28] ++ (Lb ++ Lc)) (by intro i hi; cases hi) (by rfl) (by rfl) ?_ ?_ (by simp only [List.all_cons, goes, closed, hcc, List.all_nil, Bool.and_self])
  · refine leaf3 ?_ (rb.frame fun r hr => hfr2 _ _ r (List.mem_append_left _ hr)).leaf (rc.frame fun r hr => hfr2 _ _ r (List.mem_append_right _ hr)).leaf
    rw [leafP_row (E := 49) (sz := 3) (n := a.n + 1) (cs := a.cs ++ cell) (by simp only [upd, if_neg hkk, if_true]) (by rw [closedL_append, h.ha.2.1, hcc]; rfl)]
    simp only [rsV, pushR, if_true]
  · have h1 := List.nodup_cons.1 hn
    have h2 := (List.nodup_append.1 h1.2).2.1
    refine List.nodup_cons.2 ⟨?_, ?_⟩
    · simp only [List.singleton_append, List.mem_cons, not_or]
      exact ⟨by omega, fun hr => (hfr 0 hr).1 rfl⟩
    · simp only [List.singleton_append]
      exact List.nodup_cons.2 ⟨fun hr => (hfr _ hr).2.2.1 rfl, h2⟩
end
end Go.Proofs.YtegbkihgnofkfaaDoor.Ev
