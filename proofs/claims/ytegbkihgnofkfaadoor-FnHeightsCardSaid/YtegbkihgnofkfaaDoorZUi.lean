/-
Texts Ui to Ui of the work.
-/
import Derived.Test.YtegbkihgnofkfaaDoorZUh
/-
Code: the reference's builder at the beginning of a loop.
-/
namespace Go.Proofs.YtegbkihgnofkfaaDoor.Ev
section
set_option linter.unusedVariables false
set_option linter.unusedSimpArgs false
open Go Go.RowKit
set_option linter.unusedVariables false
set_option linter.unusedSimpArgs false
theorem kind_beg {a v : UInt8} (h : a = 91 ∨ a = 123) (hv : isLV v = true) : kindM [a, v] = 91 := by
  rcases h with rfl | rfl <;> simp [kindM, hv]
def begR (b : RS) (E : Nat) (x : AV) : RS := ⟨true, E, 1, b.n + 1, b.cs ++ [x]⟩
theorem begR_ok {b : RS} {E : Nat} {x : AV} (h : rsOk b) (hs : b.sz = 1) (hc : closed x = true) : rsOk (begR b E x) := by
  refine ⟨?_, ?_, fun hh => by cases hh⟩
  · have := h.1
    rw [hs] at this
    simp only [begR, List.length_append, this, List.length_cons, List.length_nil]; omega
  · simp only [begR, closedL_append, h.2.1, closedL, hc, Bool.and_self]
theorem app_other {σ : Sto} {o : RS} {d : AV} {L : List Nat} (h : Rw σ o d L) {key E sz n : Nat} {cs : List AV} {i : Nat} (h1 : i ≠ key) (h2 : i ∉ L) : appSto σ key E sz d n cs i = σ i := by
  refine appSto_other h1 fun id lo k hd he => ?_
  obtain ⟨h0, ⟨hb, rfl, rfl⟩ | ⟨r, hb, rfl, rfl, hσ⟩⟩ := h
  · cases hd
  · cases hd
    exact h2 (by simp [he])
theorem do_beg {p : PS} {a b c : RS} (h : BR p a b c) (x v : UInt8) (hx : x = 91 ∨ x = 123) (hv : isLV v = true) (hlt : baseP p.lp < p.st.length) :
    EE 90 [lent 101 [rsV a, rsV b, rsV c], S [x, v]] = some (.t [B true, .t [lent 101 [rsV a, rsV (begR b 9 (S [x, v])), rsV (begR c 3 (N p.st.length))], S [x, v]]]) := by
  have ho := h.ok
  have hba := h.base
  have han := h.an
  have hcn := h.cn
  refine EE_rows (os := [a, b, c]) (xs := [S [x, v]]) T_do rfl (Nat.le_of_ble_eq_true rfl) (in3 ho.ha ho.hb ho.hc) rfl ?_
  intro ds σ k L hR hn hσ hL hk1 hk
  obtain ⟨da, db, dc, La, Lb, Lc, rfl, rfl, ra, rb, rc⟩ := rw3 hR
  rw [show opt 90 = [] from rfl]
  simp only [bodyOf, Tryd.f90, SA]
  have hkd : EE 114 [S [x, v]] = some (.v (.int .u8 91)) := by rw [l7Kind_ev, kind_beg hx hv]; rfl
  simp only [hkd, hσ, len_rw rc, IA, PA, RA0, RA1, RA2, RA3, RA4, RA5, RA6, RA7, RA8, RA9, RA10, Nat.reduceAdd, Nat.reduceMul, Nat.reduceEqDiff, Nat.reduceLeDiff, Nat.reduceLT, Int.reduceToNat, Int.reduceLT, Int.reduceLE, Int.reduceEq, Int.reduceNeg, Int.reduceAdd, Int.reduceSub, Int.reduceMul, reduceIte]
  rcases hba with ⟨hc0, hb0⟩ | ⟨hc0, pre, hcs, hpl⟩
  · have hlc : ¬ ((0 : Int) < (c.n : Int)) := by omega
    have hla : ¬ ((a.n : Int) ≤ 0) := by omega
    simp only [hlc, hla, hσ, len_rw ra, RR, IA, PA, RA0, RA1, RA2, RA3, RA4, RA5, RA6, RA7, RA8, RA9, RA10, Nat.reduceAdd, Nat.reduceMul, Nat.reduceEqDiff, Nat.reduceLeDiff, Nat.reduceLT, Int.reduceToNat, Int.reduceLT, Int.reduceLE, Int.reduceEq, Int.reduceNeg, Int.reduceAdd, Int.reduceSub, Int.reduceMul, reduceIte]
    have hlb := rb.lst (nx := k) fun r hr => (hL r (by simp [hr])).2
    rw [ho.bE, ho.bS] at hlb
    have hbn := ho.bn
    have hcn' := ho.cn
    have han' := ho.an
    rw [lst_app hlb (by decide) (by rfl) (by rfl) (by decide) (by omega) (by omega) (by omega)]
    generalize hτ : appSto _ _ _ _ db _ _ = τ
    have t1 := (congrFun hτ _).symm.trans (appSto_key ..)
    have t2 : ∀ i, i ≠ _ → i ∉ Lb → τ i = σ i := fun i h1 h2 => (congrFun hτ i).symm.trans (app_other rb h1 h2)
    clear hτ
    have hnd := List.nodup_cons.1 hn
    have hnd2 := List.nodup_append.1 hnd.2
    have hnd3 := List.nodup_append.1 hnd2.2.1
    have h0b : 0 ∉ Lb := fun hr => hnd.1 (by simp [hr])
    have hab : ∀ r ∈ La, r ∉ Lb := fun r hr hr2 => hnd2.2.2 r hr r (by simp [hr2]) rfl
    have hcb : ∀ r ∈ Lc, r ∉ Lb := fun r hr hr2 => hnd3.2.2 r hr2 r hr rfl
    have hac : ∀ r ∈ La, r ∉ Lc := fun r hr hr2 => hnd2.2.2 r hr r (by simp [hr2]) rfl
    have hLa : ∀ r ∈ La, 1 ≤ r ∧ r < k := fun r hr => hL r (by simp [hr])
    have hLc : ∀ r ∈ Lc, 1 ≤ r ∧ r < k := fun r hr => hL r (by simp [hr])
    have t3 : τ 0 = some (.ob 101 [da, db, dc]) := by rw [t2 0 (by omega) h0b, hσ]
    have rc2 : ∀ X, Rw (upd τ 0 X) c dc Lc := fun X => rc.frame fun r hr => by
      have := hLc r hr
      rw [upd, if_neg (by omega), t2 r (by omega) (hcb r hr)]
    have ra2 : ∀ X, Rw (upd τ 0 X) a da La := fun X => ra.frame fun r hr => by
      have := hLa r hr
      rw [upd, if_neg (by omega), t2 r (by omega) (hab r hr)]
    simp only [t1, t3, len_rw (rc2 _), len_rw (ra2 _), RR, IA, PA, RA0, RA1, RA2, RA3, RA4, RA5, RA6, RA7, RA8, RA9, RA10, Nat.reduceAdd, Nat.reduceMul, Nat.reduceEqDiff, Nat.reduceLeDiff, Nat.reduceLT, Int.reduceToNat, Int.reduceLT, Int.reduceLE, Int.reduceEq, Int.reduceNeg, Int.reduceAdd, Int.reduceSub, Int.reduceMul, reduceIte]
    have hlc2 := (rc2 (some (.ob 101 [da, .w (k + 4 + 8 + 8 + 8 + 8 + 8 + 4 + 24 + 28 + 28) 0 (b.n + 1), dc]))).lst (nx := k) fun r hr => (hLc r hr).2
    rw [ho.cE, ho.cS] at hlc2
    rw [lst_app hlc2 (by decide) (by rfl) (by rfl) (by decide) (by omega) (by omega) (by omega)]
    generalize hτ2 : appSto _ _ _ _ dc _ _ = τ2
    have u1 := (congrFun hτ2 _).symm.trans (appSto_key ..)
    have u2 : ∀ i, i ≠ _ → i ∉ Lc → τ2 i = _ := fun i h1 h2 => (congrFun hτ2 i).symm.trans (app_other (rc2 _) h1 h2)
    clear hτ2
    have h0c : 0 ∉ Lc := fun hr => hnd.1 (by simp [hr])
    have hkc : k + 4 + 8 + 8 + 8 + 8 + 8 + 4 + 24 + 28 + 28 ∉ Lc := fun hr => by have := hLc _ hr; omega
    have u3 : τ2 0 = some (.ob 101 [da, .w (k + 4 + 8 + 8 + 8 + 8 + 8 + 4 + 24 + 28 + 28) 0 (b.n + 1), dc]) := by rw [u2 0 (by omega) h0c, upd, if_pos rfl]
    have u4 := u2 (k + 4 + 8 + 8 + 8 + 8 + 8 + 4 + 24 + 28 + 28) (by omega) hkc
    rw [upd, if_neg (by omega), t1] at u4
    simp only [u1, u3, RR, IA, PA, RA0, RA1, RA2, RA3, RA4, RA5, RA6, RA7, RA8, RA9, RA10, Nat.reduceAdd, Nat.reduceMul, Nat.reduceEqDiff, Nat.reduceLeDiff, Nat.reduceLT, Int.reduceToNat, Int.reduceLT, Int.reduceLE, Int.reduceEq, Int.reduceNeg, Int.reduceAdd, Int.reduceSub, Int.reduceMul, reduceIte]
    refine out_rows_one (ds := [da, .w (k + 4 + 8 + 8 + 8 + 8 + 8 + 4 + 24 + 28 + 28) 0 (b.n + 1), .w (k + 4 + 8 + 8 + 8 + 8 + 8 + 4 + 24 + 28 + 44 + 44) 0 (c.n + 1)]) (ps := [rsV a, rsV (begR b 9 (S [x, v])), rsV (begR c 3 (N p.st.length))]) (L := La ++ ([k + 4 + 8 + 8 + 8 + 8 + 8 + 4 + 24 + 28 + 28] ++ [k + 4 + 8 + 8 + 8 + 8 + 8 + 4 + 24 + 28 + 44 + 44])) ?_ (by rfl) (by rfl) ?_ ?_ (by rfl)
    · simp only [IA, PA, RA0, RA1, RA2, RA3, RA4, RA5, RA6, RA7, RA8, RA9, RA10, Nat.reduceAdd, Nat.reduceMul, Nat.reduceEqDiff, Nat.reduceLeDiff, Nat.reduceLT, Int.reduceToNat, Int.reduceLT, Int.reduceLE, Int.reduceEq, Int.reduceNeg, Int.reduceAdd, Int.reduceSub, Int.reduceMul, reduceIte]
    · refine leaf3 (ra.frame fun r hr => ?_).leaf ?_ ?_
      · have := hLa r hr
        simp only [upd]
        rw [if_neg (by omega), u2 r (by omega) (hac r hr), upd, if_neg (by omega), t2 r (by omega) (hab r hr)]
      · rw [leafP_row (E := 9) (sz := 1) (n := b.n + 1) (cs := b.cs ++ [S [x, v]]) (by simp only [upd]; rw [if_neg (by omega)]; exact u4) (by rw [closedL_append, ho.hb.2.1]; rfl)]
        simp only [rsV, begR, if_true]
      · rw [leafP_row (E := 3) (sz := 1) (n := c.n + 1) (cs := c.cs ++ [N p.st.length]) (by simp only [upd]; rw [if_neg (by omega), u1, han]) (by rw [closedL_append, ho.hc.2.1]; rfl)]
        simp only [rsV, begR, if_true]
    · refine List.nodup_cons.2 ⟨?_, ?_⟩
      · simp only [List.mem_append, List.mem_cons, List.not_mem_nil, or_false, not_or]
        exact ⟨fun hr => by have := hLa _ hr; omega, by omega, by omega⟩
      · refine List.nodup_append.2 ⟨hnd2.1, ?_, ?_⟩
        · simp
        · intro r hr r2 hr2
          have := hLa r hr
          simp only [List.mem_append, List.mem_cons, List.not_mem_nil, or_false] at hr2
          omega
  · have hlc : ((0 : Int) < (c.n : Int)) := by omega
    obtain ⟨rr, hcb', rfl, rfl, hcσ⟩ := rc.pos hc0
    have hwc : IntKind.i64.wrap ((c.n : Int) - 1) = ((c.n - 1 : Nat) : Int) := by
      have := ho.cn
      rw [wrap64 (by omega) (by omega)]; omega
    have hz1 : (0 : Int) ≤ ((c.n - 1 : Nat) : Int) := by omega
    have hz2 : ((c.n - 1 : Nat) : Int) < (c.n : Int) := by omega
    have hhd : (c.cs.drop (c.n - 1)).head? = some (N (baseP p.lp)) := by
      rw [hcs, List.drop_append, List.drop_eq_nil_of_le (by omega), show c.n - 1 - pre.length = 0 by omega]
      rfl
    have hla : ¬ ((a.n : Int) ≤ (baseP p.lp : Int)) := by omega
    simp only [hlc, hcσ, hwc, hz1, hz2, hhd, hla, hσ, ho.cS, Int.toNat_natCast, Nat.mul_one, Nat.zero_add, len_rw ra, RR, IA, PA, RA0, RA1, RA2, RA3, RA4, RA5, RA6, RA7, RA8, RA9, RA10, Nat.reduceAdd, Nat.reduceMul, Nat.reduceEqDiff, Nat.reduceLeDiff, Nat.reduceLT, Int.reduceToNat, Int.reduceLT, Int.reduceLE, Int.reduceEq, Int.reduceNeg, Int.reduceAdd, Int.reduceSub, Int.reduceMul, reduceIte]
    have hlb := rb.lst (nx := k) fun r hr => (hL r (by simp [hr])).2
    rw [ho.bE, ho.bS] at hlb
    have hbn := ho.bn
    have hcn' := ho.cn
    have han' := ho.an
    rw [lst_app hlb (by decide) (by rfl) (by rfl) (by decide) (by omega) (by omega) (by omega)]
    generalize hτ : appSto _ _ _ _ db _ _ = τ
    have t1 := (congrFun hτ _).symm.trans (appSto_key ..)
    have t2 : ∀ i, i ≠ _ → i ∉ Lb → τ i = σ i := fun i h1 h2 => (congrFun hτ i).symm.trans (app_other rb h1 h2)
    clear hτ
    have hnd := List.nodup_cons.1 hn
    have hnd2 := List.nodup_append.1 hnd.2
    have hnd3 := List.nodup_append.1 hnd2.2.1
    have h0b : 0 ∉ Lb := fun hr => hnd.1 (by simp [hr])
    have hab : ∀ r ∈ La, r ∉ Lb := fun r hr hr2 => hnd2.2.2 r hr r (by simp [hr2]) rfl
    have hcb : ∀ r ∈ [rr], r ∉ Lb := fun r hr hr2 => hnd3.2.2 r hr2 r hr rfl
    have hac : ∀ r ∈ La, r ∉ [rr] := fun r hr hr2 => hnd2.2.2 r hr r (by simp [hr2]) rfl
    have hLa : ∀ r ∈ La, 1 ≤ r ∧ r < k := fun r hr => hL r (by simp [hr])
    have hLc : ∀ r ∈ [rr], 1 ≤ r ∧ r < k := fun r hr => hL r (by simp [hr])
    have t3 : τ 0 = some (.ob 101 [da, db, (.w rr 0 c.n)]) := by rw [t2 0 (by omega) h0b, hσ]
    have rc2 : ∀ X, Rw (upd τ 0 X) c (.w rr 0 c.n) [rr] := fun X => rc.frame fun r hr => by
      have := hLc r hr
      rw [upd, if_neg (by omega), t2 r (by omega) (hcb r hr)]
    have ra2 : ∀ X, Rw (upd τ 0 X) a da La := fun X => ra.frame fun r hr => by
      have := hLa r hr
      rw [upd, if_neg (by omega), t2 r (by omega) (hab r hr)]
    simp only [t1, t3, len_rw (rc2 _), len_rw (ra2 _), RR, IA, PA, RA0, RA1, RA2, RA3, RA4, RA5, RA6, RA7, RA8, RA9, RA10, Nat.reduceAdd, Nat.reduceMul, Nat.reduceEqDiff, Nat.reduceLeDiff, Nat.reduceLT, Int.reduceToNat, Int.reduceLT, Int.reduceLE, Int.reduceEq, Int.reduceNeg, Int.reduceAdd, Int.reduceSub, Int.reduceMul, reduceIte]
    have hlc2 := (rc2 (some (.ob 101 [da, .w (k + 4 + 8 + 8 + 8 + 8 + 8 + 4 + 24 + 52 + 28 + 28) 0 (b.n + 1), (.w rr 0 c.n)]))).lst (nx := k) fun r hr => (hLc r hr).2
    rw [ho.cE, ho.cS] at hlc2
    rw [lst_app hlc2 (by decide) (by rfl) (by rfl) (by decide) (by omega) (by omega) (by omega)]
    generalize hτ2 : appSto _ _ _ _ (.w rr 0 c.n) _ _ = τ2
    have u1 := (congrFun hτ2 _).symm.trans (appSto_key ..)
    have u2 : ∀ i, i ≠ _ → i ∉ [rr] → τ2 i = _ := fun i h1 h2 => (congrFun hτ2 i).symm.trans (app_other (rc2 _) h1 h2)
    clear hτ2
    have h0c : 0 ∉ [rr] := fun hr => hnd.1 (by simp [hr])
    have hkc : k + 4 + 8 + 8 + 8 + 8 + 8 + 4 + 24 + 52 + 28 + 28 ∉ [rr] := fun hr => by have := hLc _ hr; omega
    have u3 : τ2 0 = some (.ob 101 [da, .w (k + 4 + 8 + 8 + 8 + 8 + 8 + 4 + 24 + 52 + 28 + 28) 0 (b.n + 1), (.w rr 0 c.n)]) := by rw [u2 0 (by omega) h0c, upd, if_pos rfl]
    have u4 := u2 (k + 4 + 8 + 8 + 8 + 8 + 8 + 4 + 24 + 52 + 28 + 28) (by omega) hkc
    rw [upd, if_neg (by omega), t1] at u4
    simp only [u1, u3, RR, IA, PA, RA0, RA1, RA2, RA3, RA4, RA5, RA6, RA7, RA8, RA9, RA10, Nat.reduceAdd, Nat.reduceMul, Nat.reduceEqDiff, Nat.reduceLeDiff, Nat.reduceLT, Int.reduceToNat, Int.reduceLT, Int.reduceLE, Int.reduceEq, Int.reduceNeg, Int.reduceAdd, Int.reduceSub, Int.reduceMul, reduceIte]
    refine out_rows_one (ds := [da, .w (k + 4 + 8 + 8 + 8 + 8 + 8 + 4 + 24 + 52 + 28 + 28) 0 (b.n + 1), .w (k + 4 + 8 + 8 + 8 + 8 + 8 + 4 + 24 + 52 + 28 + 44 + 44) 0 (c.n + 1)]) (ps := [rsV a, rsV (begR b 9 (S [x, v])), rsV (begR c 3 (N p.st.length))]) (L := La ++ ([k + 4 + 8 + 8 + 8 + 8 + 8 + 4 + 24 + 52 + 28 + 28] ++ [k + 4 + 8 + 8 + 8 + 8 + 8 + 4 + 24 + 52 + 28 + 44 + 44])) ?_ (by rfl) (by rfl) ?_ ?_ (by rfl)
    · simp only [IA, PA, RA0, RA1, RA2, RA3, RA4, RA5, RA6, RA7, RA8, RA9, RA10, Nat.reduceAdd, Nat.reduceMul, Nat.reduceEqDiff, Nat.reduceLeDiff, Nat.reduceLT, Int.reduceToNat, Int.reduceLT, Int.reduceLE, Int.reduceEq, Int.reduceNeg, Int.reduceAdd, Int.reduceSub, Int.reduceMul, reduceIte]
    · refine leaf3 (ra.frame fun r hr => ?_).leaf ?_ ?_
      · have := hLa r hr
        simp only [upd]
        rw [if_neg (by omega), u2 r (by omega) (hac r hr), upd, if_neg (by omega), t2 r (by omega) (hab r hr)]
      · rw [leafP_row (E := 9) (sz := 1) (n := b.n + 1) (cs := b.cs ++ [S [x, v]]) (by simp only [upd]; rw [if_neg (by omega)]; exact u4) (by rw [closedL_append, ho.hb.2.1]; rfl)]
        simp only [rsV, begR, if_true]
      · rw [leafP_row (E := 3) (sz := 1) (n := c.n + 1) (cs := c.cs ++ [N p.st.length]) (by simp only [upd]; rw [if_neg (by omega), u1, han]) (by rw [closedL_append, ho.hc.2.1]; rfl)]
        simp only [rsV, begR, if_true]
    · refine List.nodup_cons.2 ⟨?_, ?_⟩
      · simp only [List.mem_append, List.mem_cons, List.not_mem_nil, or_false, not_or]
        exact ⟨fun hr => by have := hLa _ hr; omega, by omega, by omega⟩
      · refine List.nodup_append.2 ⟨hnd2.1, ?_, ?_⟩
        · simp
        · intro r hr r2 hr2
          have := hLa r hr
          simp only [List.mem_append, List.mem_cons, List.not_mem_nil, or_false] at hr2
          omega
end
end Go.Proofs.YtegbkihgnofkfaaDoor.Ev
