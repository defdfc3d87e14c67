/-
Texts Ui to Uj of the work.
-/
import Derived.Test.YtegbkihgnofkfaaGreatDoorZUh
/-
Code: the reference's builder at the beginning of a loop.
-/
namespace Go.Proofs.YtegbkihgnofkfaaGreatDoor.Ev
section
set_option linter.unusedVariables false
set_option linter.unusedSimpArgs false
open Go Go.RowKit
set_option linter.unusedVariables false
set_option linter.unusedSimpArgs false
theorem kind_beg {a v : UInt8} (h : a = 91 ∨ a = 123) (hv : isLV v = true) : kindM [a, v] = 91 := by
  rcases h with rfl | rfl <;> simp [kindM, hv]
def begR (b : RS) (E : Nat) (x : AV) : RS := ⟨true, E, 1, b.n + 1, b.cs ++ [x]⟩
theorem begR_ok {b : RS} {E : Nat} {x : AV} (h : rsOk b) (hs : b.sz = 1) (hc : closed x = true) : rsOk (begR b E x) := by
  refine ⟨?_, ?_, fun hh => by cases hh⟩
  · have := h.1
    rw [hs] at this
    simp only [begR, List.length_append, this, List.length_cons, List.length_nil]; omega
  · simp only [begR, closedL_append, h.2.1, closedL, hc, Bool.and_self]
theorem app_other {σ : Sto} {o : RS} {d : AV} {L : List Nat} (h : Rw σ o d L) {key E sz n : Nat} {cs : List AV} {i : Nat} (h1 : i ≠ key) (h2 : i ∉ L) : appSto σ key E sz d n cs i = σ i := by
  refine appSto_other h1 fun id lo k hd he => ?_
  obtain ⟨h0, ⟨hb, rfl, rfl⟩ | ⟨r, hb, rfl, rfl, hσ⟩⟩ := h
  · cases hd
  · cases hd
    exact h2 (by simp [he])
theorem do_beg {p : PS} {a b c : RS} (h : BR p a b c) (x v : UInt8) (hx : x = 91 ∨ x = 123) (hv : isLV v = true) (hlt : baseP p.lp < p.st.length) :
    EE 87 [lent 118 [rsV a, rsV b, rsV c], S [x, v]] = some (.t [B true, .t [lent 118 [rsV a, rsV (begR b 9 (S [x, v])), rsV (begR c 3 (N p.st.length))], S [x, v]]]) := by
  have ho := h.ok
  have hba := h.base
  have han := h.an
  have hcn := h.cn
  refine EE_rows (os := [a, b, c]) (xs := [S [x, v]]) T_do rfl (Nat.le_of_ble_eq_true rfl) (in3 ho.ha ho.hb ho.hc) rfl ?_
  intro ds σ k L hR hn hσ hL hk1 hk
  obtain ⟨da, db, dc, La, Lb, Lc, rfl, rfl, ra, rb, rc⟩ := rw3 hR
  rw [show opt 87 = [] from rfl]
  simp only [bodyOf, Tryz.f87, SA]
  have hkd : EE 12 [S [x, v]] = some (.v (.int .u8 91)) := by rw [l7Kind_ev, kind_beg hx hv]; rfl
  simp only [hkd, hσ, len_rw rc, IA, PA, RA0, RA1, RA2, RA3, RA4, RA5, RA6, RA7, RA8, RA9, RA10, Nat.reduceAdd, Nat.reduceMul, Nat.reduceEqDiff, Nat.reduceLeDiff, Nat.reduceLT, Int.reduceToNat, Int.reduceLT, Int.reduceLE, Int.reduceEq, Int.reduceNeg, Int.reduceAdd, Int.reduceSub, Int.reduceMul, reduceIte]
  rcases hba with ⟨hc0, hb0⟩ | ⟨hc0, pre, hcs, hpl⟩
  · have hlc : ¬ ((0 : Int) < (c.n : Int)) := by omega
    have hla : ¬ ((a.n : Int) ≤ 0) := by omega
    simp only [hlc, hla, hσ, len_rw ra, RR, IA, PA, RA0, RA1, RA2, RA3, RA4, RA5, RA6, RA7, RA8, RA9, RA10, Nat.reduceAdd, Nat.reduceMul, Nat.reduceEqDiff, Nat.reduceLeDiff, Nat.reduceLT, Int.reduceToNat, Int.reduceLT, Int.reduceLE, Int.reduceEq, Int.reduceNeg, Int.reduceAdd, Int.reduceSub, Int.reduceMul, reduceIte]
    have hlb := rb.lst (nx := k) fun r hr => (hL r (by simp [hr])).2
    rw [ho.bE, ho.bS] at hlb
    have hbn := ho.bn
    have hcn' := ho.cn
    have han' := ho.an
    rw [lst_app hlb (by decide) (by rfl) (by rfl) (by decide) (by omega) (by omega) (by omega)]
    generalize hτ : appSto _ _ _ _ db _ _ = τ
    have t1 := (congrFun hτ _).symm.trans (appSto_key ..)
    have t2 : ∀ i, i ≠ _ → i ∉ Lb → τ i = σ i := fun i h1 h2 => (congrFun hτ i).symm.trans (app_other rb h1 h2)
    clear hτ
    have hnd := List.nodup_cons.1 hn
    have hnd2 := List.nodup_append.1 hnd.2
    have hnd3 := List.nodup_append.1 hnd2.2.1
    have h0b : 0 ∉ Lb := fun hr => hnd.1 (by simp [hr])
    have hab : ∀ r ∈ La, r ∉ Lb := fun r hr hr2 => hnd2.2.2 r hr r (by simp [hr2]) rfl
    have hcb : ∀ r ∈ Lc, r ∉ Lb := fun r hr hr2 => hnd3.2.2 r hr2 r hr rfl
    have hac : ∀ r ∈ La, r ∉ Lc := fun r hr hr2 => hnd2.2.2 r hr r (by simp [hr2]) rfl
    have hLa : ∀ r ∈ La, 1 ≤ r ∧ r < k := fun r hr => hL r (by simp [hr])
    have hLc : ∀ r ∈ Lc, 1 ≤ r ∧ r < k := fun r hr => hL r (by simp [hr])
    have t3 : τ 0 = some (.ob 118 [da, db, dc]) := by rw [t2 0 (by omega) h0b, hσ]
    have rc2 : ∀ X, Rw (upd τ 0 X) c dc Lc := fun X => rc.frame fun r hr => by
      have := hLc r hr
      rw [upd, if_neg (by omega), t2 r (by omega) (hcb r hr)]
    have ra2 : ∀ X, Rw (upd τ 0 X) a da La := fun X => ra.frame fun r hr => by
      have := hLa r hr
      rw [upd, if_neg (by omega), t2 r (by omega) (hab r hr)]
    simp only [t1, t3, len_rw (rc2 _), len_rw (ra2 _), RR, IA, PA, RA0, RA1, RA2, RA3, RA4, RA5, RA6, RA7, RA8, RA9, RA10, Nat.reduceAdd, Nat.reduceMul, Nat.reduceEqDiff, Nat.reduceLeDiff, Nat.reduceLT, Int.reduceToNat, Int.reduceLT, Int.reduceLE, Int.reduceEq, Int.reduceNeg, Int.reduceAdd, Int.reduceSub, Int.reduceMul, reduceIte]
    have hlc2 := (rc2 (some (.ob 118 [da, .w (k + 4 + 8 + 8 + 8 + 8 + 8 + 4 + 24 + 28 + 28) 0 (b.n + 1), dc]))).lst (nx := k) fun r hr => (hLc r hr).2
    rw [ho.cE, ho.cS] at hlc2
    rw [lst_app hlc2 (by decide) (by rfl) (by rfl) (by decide) (by omega) (by omega) (by omega)]
    generalize hτ2 : appSto _ _ _ _ dc _ _ = τ2
    have u1 := (congrFun hτ2 _).symm.trans (appSto_key ..)
    have u2 : ∀ i, i ≠ _ → i ∉ Lc → τ2 i = _ := fun i h1 h2 => (congrFun hτ2 i).symm.trans (app_other (rc2 _) h1 h2)
    clear hτ2
    have h0c : 0 ∉ Lc := fun hr => hnd.1 (by simp [hr])
    have hkc : k + 4 + 8 + 8 + 8 + 8 + 8 + 4 + 24 + 28 + 28 ∉ Lc := fun hr => by have := hLc _ hr; omega
    have u3 : τ2 0 = some (.ob 118 [da, .w (k + 4 + 8 + 8 + 8 + 8 + 8 + 4 + 24 + 28 + 28) 0 (b.n + 1), dc]) := by rw [u2 0 (by omega) h0c, upd, if_pos rfl]
    have u4 := u2 (k + 4 + 8 + 8 + 8 + 8 + 8 + 4 + 24 + 28 + 28) (by omega) hkc
    rw [upd, if_neg (by omega), t1] at u4
    simp only [u1, u3, RR, IA, PA, RA0, RA1, RA2, RA3, RA4, RA5, RA6, RA7, RA8, RA9, RA10, Nat.reduceAdd, Nat.reduceMul, Nat.reduceEqDiff, Nat.reduceLeDiff, Nat.reduceLT, Int.reduceToNat, Int.reduceLT, Int.reduceLE, Int.reduceEq, Int.reduceNeg, Int.reduceAdd, Int.reduceSub, Int.reduceMul, reduceIte]
    refine out_rows_one (ds := [da, .w (k + 4 + 8 + 8 + 8 + 8 + 8 + 4 + 24 + 28 + 28) 0 (b.n + 1), .w (k + 4 + 8 + 8 + 8 + 8 + 8 + 4 + 24 + 28 + 44 + 44) 0 (c.n + 1)]) (ps := [rsV a, rsV (begR b 9 (S [x, v])), rsV (begR c 3 (N p.st.length))]) (L := La ++ ([k + 4 + 8 + 8 + 8 + 8 + 8 + 4 + 24 + 28 + 28] ++ [k + 4 + 8 + 8 + 8 + 8 + 8 + 4 + 24 + 28 + 44 + 44])) ?_ (by rfl) (by rfl) ?_ ?_ (by rfl)
    · simp only [IA, PA, RA0, RA1, RA2, RA3, RA4, RA5, RA6, RA7, RA8, RA9, RA10, Nat.reduceAdd, Nat.reduceMul, Nat.reduceEqDiff, Nat.reduceLeDiff, Nat.reduceLT, Int.reduceToNat, Int.reduceLT, Int.reduceLE, Int.reduceEq, Int.reduceNeg, Int.reduceAdd, Int.reduceSub, Int.reduceMul, reduceIte]
    · refine leaf3 (ra.frame fun r hr => ?_).leaf ?_ ?_
      · have := hLa r hr
        simp only [upd]
        rw [if_neg (by omega), u2 r (by omega) (hac r hr), upd, if_neg (by omega), t2 r (by omega) (hab r hr)]
      · rw [leafP_row (E := 9) (sz := 1) (n := b.n + 1) (cs := b.cs ++ [S [x, v]]) (by simp only [upd]; rw [if_neg (by omega)]; exact u4) (by rw [closedL_append, ho.hb.2.1]; rfl)]
        simp only [rsV, begR, if_true]
      · rw [leafP_row (E := 3) (sz := 1) (n := c.n + 1) (cs := c.cs ++ [N p.st.length]) (by simp only [upd]; rw [if_neg (by omega), u1, han]) (by rw [closedL_append, ho.hc.2.1]; rfl)]
        simp only [rsV, begR, if_true]
    · refine List.nodup_cons.2 ⟨?_, ?_⟩
      · simp only [List.mem_append, List.mem_cons, List.not_mem_nil, or_false, not_or]
        exact ⟨fun hr => by have := hLa _ hr; omega, by omega, by omega⟩
      · refine List.nodup_append.2 ⟨hnd2.1, ?_, ?_⟩
        · simp
        · intro r hr r2 hr2
          have := hLa r hr
          simp only [List.mem_append, List.mem_cons, List.not_mem_nil, or_false] at hr2
          omega
  · have hlc : ((0 : Int) < (c.n : Int)) := by omega
    obtain ⟨rr, hcb', rfl, rfl, hcσ⟩ := rc.pos hc0
    have hwc : IntKind.i64.wrap ((c.n : Int) - 1) = ((c.n - 1 : Nat) : Int) := by
      have := ho.cn
      rw [wrap64 (by omega) (by omega)]; omega
    have hz1 : (0 : Int) ≤ ((c.n - 1 : Nat) : Int) := by omega
    have hz2 : ((c.n - 1 : Nat) : Int) < (c.n : Int) := by omega
    have hhd : (c.cs.drop (c.n - 1)).head? = some (N (baseP p.lp)) := by
      rw [hcs, List.drop_append, List.drop_eq_nil_of_le (by omega), show c.n - 1 - pre.length = 0 by omega]
      rfl
    have hla : ¬ ((a.n : Int) ≤ (baseP p.lp : Int)) := by omega
    simp only [hlc, hcσ, hwc, hz1, hz2, hhd, hla, hσ, ho.cS, Int.toNat_natCast, Nat.mul_one, Nat.zero_add, len_rw ra, RR, IA, PA, RA0, RA1, RA2, RA3, RA4, RA5, RA6, RA7, RA8, RA9, RA10, Nat.reduceAdd, Nat.reduceMul, Nat.reduceEqDiff, Nat.reduceLeDiff, Nat.reduceLT, Int.reduceToNat, Int.reduceLT, Int.reduceLE, Int.reduceEq, Int.reduceNeg, Int.reduceAdd, Int.reduceSub, Int.reduceMul, reduceIte]
    have hlb := rb.lst (nx := k) fun r hr => (hL r (by simp [hr])).2
    rw [ho.bE, ho.bS] at hlb
    have hbn := ho.bn
    have hcn' := ho.cn
    have han' := ho.an
    rw [lst_app hlb (by decide) (by rfl) (by rfl) (by decide) (by omega) (by omega) (by omega)]
    generalize hτ : appSto _ _ _ _ db _ _ = τ
    have t1 := (congrFun hτ _).symm.trans (appSto_key ..)
    have t2 : ∀ i, i ≠ _ → i ∉ Lb → τ i = σ i := fun i h1 h2 => (congrFun hτ i).symm.trans (app_other rb h1 h2)
    clear hτ
    have hnd := List.nodup_cons.1 hn
    have hnd2 := List.nodup_append.1 hnd.2
    have hnd3 := List.nodup_append.1 hnd2.2.1
    have h0b : 0 ∉ Lb := fun hr => hnd.1 (by simp [hr])
    have hab : ∀ r ∈ La, r ∉ Lb := fun r hr hr2 => hnd2.2.2 r hr r (by simp [hr2]) rfl
    have hcb : ∀ r ∈ [rr], r ∉ Lb := fun r hr hr2 => hnd3.2.2 r hr2 r hr rfl
    have hac : ∀ r ∈ La, r ∉ [rr] := fun r hr hr2 => hnd2.2.2 r hr r (by simp [hr2]) rfl
    have hLa : ∀ r ∈ La, 1 ≤ r ∧ r < k := fun r hr => hL r (by simp [hr])
    have hLc : ∀ r ∈ [rr], 1 ≤ r ∧ r < k := fun r hr => hL r (by simp [hr])
    have t3 : τ 0 = some (.ob 118 [da, db, (.w rr 0 c.n)]) := by rw [t2 0 (by omega) h0b, hσ]
    have rc2 : ∀ X, Rw (upd τ 0 X) c (.w rr 0 c.n) [rr] := fun X => rc.frame fun r hr => by
      have := hLc r hr
      rw [upd, if_neg (by omega), t2 r (by omega) (hcb r hr)]
    have ra2 : ∀ X, Rw (upd τ 0 X) a da La := fun X => ra.frame fun r hr => by
      have := hLa r hr
      rw [upd, if_neg (by omega), t2 r (by omega) (hab r hr)]
    simp only [t1, t3, len_rw (rc2 _), len_rw (ra2 _), RR, IA, PA, RA0, RA1, RA2, RA3, RA4, RA5, RA6, RA7, RA8, RA9, RA10, Nat.reduceAdd, Nat.reduceMul, Nat.reduceEqDiff, Nat.reduceLeDiff, Nat.reduceLT, Int.reduceToNat, Int.reduceLT, Int.reduceLE, Int.reduceEq, Int.reduceNeg, Int.reduceAdd, Int.reduceSub, Int.reduceMul, reduceIte]
    have hlc2 := (rc2 (some (.ob 118 [da, .w (k + 4 + 8 + 8 + 8 + 8 + 8 + 4 + 24 + 52 + 28 + 28) 0 (b.n + 1), (.w rr 0 c.n)]))).lst (nx := k) fun r hr => (hLc r hr).2
    rw [ho.cE, ho.cS] at hlc2
    rw [lst_app hlc2 (by decide) (by rfl) (by rfl) (by decide) (by omega) (by omega) (by omega)]
    generalize hτ2 : appSto _ _ _ _ (.w rr 0 c.n) _ _ = τ2
    have u1 := (congrFun hτ2 _).symm.trans (appSto_key ..)
    have u2 : ∀ i, i ≠ _ → i ∉ [rr] → τ2 i = _ := fun i h1 h2 => (congrFun hτ2 i).symm.trans (app_other (rc2 _) h1 h2)
    clear hτ2
    have h0c : 0 ∉ [rr] := fun hr => hnd.1 (by simp [hr])
    have hkc : k + 4 + 8 + 8 + 8 + 8 + 8 + 4 + 24 + 52 + 28 + 28 ∉ [rr] := fun hr => by have := hLc _ hr; omega
    have u3 : τ2 0 = some (.ob 118 [da, .w (k + 4 + 8 + 8 + 8 + 8 + 8 + 4 + 24 + 52 + 28 + 28) 0 (b.n + 1), (.w rr 0 c.n)]) := by rw [u2 0 (by omega) h0c, upd, if_pos rfl]
    have u4 := u2 (k + 4 + 8 + 8 + 8 + 8 + 8 + 4 + 24 + 52 + 28 + 28) (by omega) hkc
    rw [upd, if_neg (by omega), t1] at u4
    simp only [u1, u3, RR, IA, PA, RA0, RA1, RA2, RA3, RA4, RA5, RA6, RA7, RA8, RA9, RA10, Nat.reduceAdd, Nat.reduceMul, Nat.reduceEqDiff, Nat.reduceLeDiff, Nat.reduceLT, Int.reduceToNat, Int.reduceLT, Int.reduceLE, Int.reduceEq, Int.reduceNeg, Int.reduceAdd, Int.reduceSub, Int.reduceMul, reduceIte]
    refine out_rows_one (ds := [da, .w (k + 4 + 8 + 8 + 8 + 8 + 8 + 4 + 24 + 52 + 28 + 28) 0 (b.n + 1), .w (k + 4 + 8 + 8 + 8 + 8 + 8 + 4 + 24 + 52 + 28 + 44 + 44) 0 (c.n + 1)]) (ps := [rsV a, rsV (begR b 9 (S [x, v])), rsV (begR c 3 (N p.st.length))]) (L := La ++ ([k + 4 + 8 + 8 + 8 + 8 + 8 + 4 + 24 + 52 + 28 + 28] ++ [k + 4 + 8 + 8 + 8 + 8 + 8 + 4 + 24 + 52 + 28 + 44 + 44])) ?_ (by rfl) (by rfl) ?_ ?_ (by rfl)
    · simp only [IA, PA, RA0, RA1, RA2, RA3, RA4, RA5, RA6, RA7, RA8, RA9, RA10, Nat.reduceAdd, Nat.reduceMul, Nat.reduceEqDiff, Nat.reduceLeDiff, Nat.reduceLT, Int.reduceToNat, Int.reduceLT, Int.reduceLE, Int.reduceEq, Int.reduceNeg, Int.reduceAdd, Int.reduceSub, Int.reduceMul, reduceIte]
    · refine leaf3 (ra.frame fun r hr => ?_).leaf ?_ ?_
      · have := hLa r hr
        simp only [upd]
        rw [if_neg (by omega), u2 r (by omega) (hac r hr), upd, if_neg (by omega), t2 r (by omega) (hab r hr)]
      · rw [leafP_row (E := 9) (sz := 1) (n := b.n + 1) (cs := b.cs ++ [S [x, v]]) (by simp only [upd]; rw [if_neg (by omega)]; exact u4) (by rw [closedL_append, ho.hb.2.1]; rfl)]
        simp only [rsV, begR, if_true]
      · rw [leafP_row (E := 3) (sz := 1) (n := c.n + 1) (cs := c.cs ++ [N p.st.length]) (by simp only [upd]; rw [if_neg (by omega), u1, han]) (by rw [closedL_append, ho.hc.2.1]; rfl)]
        simp only [rsV, begR, if_true]
    · refine List.nodup_cons.2 ⟨?_, ?_⟩
      · simp only [List.mem_append, List.mem_cons, List.not_mem_nil, or_false, not_or]
        exact ⟨fun hr => by have := hLa _ hr; omega, by omega, by omega⟩
      · refine List.nodup_append.2 ⟨hnd2.1, ?_, ?_⟩
        · simp
        · intro r hr r2 hr2
          have := hLa r hr
          simp only [List.mem_append, List.mem_cons, List.not_mem_nil, or_false] at hr2
          omega
end
end Go.Proofs.YtegbkihgnofkfaaGreatDoor.Ev

/-
Code: the reference's builder at the end of a loop.
-/
namespace Go.Proofs.YtegbkihgnofkfaaGreatDoor.Ev
section
set_option linter.unusedVariables false
set_option linter.unusedSimpArgs false
open Go Go.RowKit
set_option linter.unusedVariables false
set_option linter.unusedSimpArgs false
theorem wrap_u8_two (c : UInt8) : IntKind.u8.wrap ((c.toNat : Int) + 2) = ((c + 2).toNat : Int) := by
  have h : (c + 2).toNat = (c.toNat + 2) % 256 := UInt8.toNat_add c 2
  rw [h]
  unfold IntKind.wrap
  simp [IntKind.bits, IntKind.signed]
theorem end_none {p : PS} {a b c : RS} (h : BR p a b c) (x : UInt8) (hp : p.lp = []) :
    EE 103 [lent 118 [rsV a, rsV b, rsV c], U x] = some (.t [B false, .t [lent 118 [rsV a, rsV b, rsV c], U x]]) := by
  have ho := h.ok
  have hbn := h.bn
  rw [hp] at hbn
  refine EE_rows (os := [a, b, c]) (xs := [U x]) T_end rfl (Nat.le_of_ble_eq_true rfl) (in3 ho.ha ho.hb ho.hc) rfl ?_
  intro ds σ k L hR hn hσ hL hk1 hk
  have hl := hR.leaf
  obtain ⟨da, db, dc, La, Lb, Lc, rfl, rfl, ra, rb, rc⟩ := rw3 hR
  rw [show opt 103 = [] from rfl]
  simp only [bodyOf, Tryz.f103, SA]
  simp only [hσ, len_rw rb, hbn, List.length_nil, IA, PA, RA0, RA1, RA2, RA3, RA4, RA5, RA6, RA7, RA8, RA9, RA10, Nat.reduceAdd, Nat.reduceMul, Nat.reduceEqDiff, Nat.reduceLeDiff, Nat.reduceLT, Int.reduceToNat, Int.reduceLT, Int.reduceLE, Int.reduceEq, Int.reduceNeg, Int.reduceAdd, Int.reduceSub, Int.reduceMul, reduceIte]
  refine out_rows_one (x := B false) (ds := [da, db, dc]) (ps := [rsV a, rsV b, rsV c]) (L := La ++ (Lb ++ Lc)) ?_ (by rfl) (by exact hσ) hl hn (by rfl)
  simp only [IA, PA, RA0, RA1, RA2, RA3, RA4, RA5, RA6, RA7, RA8, RA9, RA10, Nat.reduceAdd, Nat.reduceMul, Nat.reduceEqDiff, Nat.reduceLeDiff, Nat.reduceLT, Int.reduceToNat, Int.reduceLT, Int.reduceLE, Int.reduceEq, Int.reduceNeg, Int.reduceAdd, Int.reduceSub, Int.reduceMul, reduceIte]
theorem BR.lps {p : PS} {a b c : RS} (h : BR p a b c) {s v : UInt8} {n : Nat} {l : List (UInt8 × UInt8 × Nat)} (hp : p.lp = (s, v, n) :: l) :
    b.n = l.length + 1 ∧ c.n = l.length + 1 ∧ b.cs = (l.reverse.map fun q => S [q.1, q.2.1]) ++ [S [s, v]] ∧ c.cs = (l.reverse.map fun q => N (q.2.2 : Int)) ++ [N n] := by
  obtain ⟨st, lp⟩ := p
  simp only at hp
  subst hp
  refine ⟨h.bn, h.cn, ?_, ?_⟩
  · rw [h.bc]; simp
  · rw [h.cc]; simp
theorem end_sign {p : PS} {a b c : RS} (h : BR p a b c) (x : UInt8) {s v : UInt8} {n : Nat} {l : List (UInt8 × UInt8 × Nat)} (hp : p.lp = (s, v, n) :: l) (hs : s + 2 ≠ x) :
    EE 103 [lent 118 [rsV a, rsV b, rsV c], U x] = some (.t [B false, .t [lent 118 [rsV a, rsV b, rsV c], U x]]) := by
  have ho := h.ok
  obtain ⟨hbn, hcn, hbc, hcc⟩ := h.lps hp
  refine EE_rows (os := [a, b, c]) (xs := [U x]) T_end rfl (Nat.le_of_ble_eq_true rfl) (in3 ho.ha ho.hb ho.hc) rfl ?_
  intro ds σ k L hR hn hσ hL hk1 hk
  have hl := hR.leaf
  obtain ⟨da, db, dc, La, Lb, Lc, rfl, rfl, ra, rb, rc⟩ := rw3 hR
  obtain ⟨ri, hb', rfl, rfl, hbσ⟩ := rb.pos (by omega)
  rw [show opt 103 = [] from rfl]
  simp only [bodyOf, Tryz.f103, SA]
  have hbz : ¬ ((b.n : Int) = 0) := by omega
  have hwb : IntKind.i64.wrap ((b.n : Int) - 1) = ((b.n - 1 : Nat) : Int) := by
    have := ho.bn
    rw [wrap64 (by omega) (by omega)]; omega
  have hz1 : (0 : Int) ≤ ((b.n - 1 : Nat) : Int) := by omega
  have hz2 : ((b.n - 1 : Nat) : Int) < (b.n : Int) := by omega
  have hhd : (b.cs.drop (b.n - 1)).head? = some (S [s, v]) := by
    rw [hbc, List.drop_append, List.drop_eq_nil_of_le (by simp; omega), show b.n - 1 - (l.reverse.map fun q => S [q.1, q.2.1]).length = 0 by simp; omega]
    rfl
  have hne : decide (((s + 2).toNat : Int) = (x.toNat : Int)) = false := by
    simp only [decide_eq_false_iff_not]
    intro e
    exact hs (UInt8.toNat_inj.1 (by omega))
  simp only [hσ, hbσ, hbz, hwb, hz1, hz2, hhd, ho.bS, wrap_u8_two, hne, Int.toNat_natCast, Nat.mul_one, Nat.zero_add, IA, PA, RA0, RA1, RA2, RA3, RA4, RA5, RA6, RA7, RA8, RA9, RA10, Nat.reduceAdd, Nat.reduceMul, Nat.reduceEqDiff, Nat.reduceLeDiff, Nat.reduceLT, Int.reduceToNat, Int.reduceLT, Int.reduceLE, Int.reduceEq, Int.reduceNeg, Int.reduceAdd, Int.reduceSub, Int.reduceMul, reduceIte]
  refine out_rows_one (x := B false) (ds := [da, .w ri 0 b.n, dc]) (ps := [rsV a, rsV b, rsV c]) (L := La ++ ([ri] ++ Lc)) ?_ (by rfl) (by exact hσ) hl hn (by rfl)
  simp only [IA, PA, RA0, RA1, RA2, RA3, RA4, RA5, RA6, RA7, RA8, RA9, RA10, Nat.reduceAdd, Nat.reduceMul, Nat.reduceEqDiff, Nat.reduceLeDiff, Nat.reduceLT, Int.reduceToNat, Int.reduceLT, Int.reduceLE, Int.reduceEq, Int.reduceNeg, Int.reduceAdd, Int.reduceSub, Int.reduceMul, reduceIte]
theorem end_len {p : PS} {a b c : RS} (h : BR p a b c) (x : UInt8) {s v : UInt8} {n : Nat} {l : List (UInt8 × UInt8 × Nat)} (hp : p.lp = (s, v, n) :: l) (hs : s + 2 = x) (hnb : n < 1000000000) (hlen : p.st.length ≠ n + 1) :
    EE 103 [lent 118 [rsV a, rsV b, rsV c], U x] = some (.t [B false, .t [lent 118 [rsV a, rsV b, rsV c], U x]]) := by
  have ho := h.ok
  have han := h.an
  obtain ⟨hbn, hcn, hbc, hcc⟩ := h.lps hp
  subst hs
  refine EE_rows (os := [a, b, c]) (xs := [U (s + 2)]) T_end rfl (Nat.le_of_ble_eq_true rfl) (in3 ho.ha ho.hb ho.hc) rfl ?_
  intro ds σ k L hR hn hσ hL hk1 hk
  have hl := hR.leaf
  obtain ⟨da, db, dc, La, Lb, Lc, rfl, rfl, ra, rb, rc⟩ := rw3 hR
  obtain ⟨ri, hb', rfl, rfl, hbσ⟩ := rb.pos (by omega)
  obtain ⟨rj, hc', rfl, rfl, hcσ⟩ := rc.pos (by omega)
  rw [show opt 103 = [] from rfl]
  simp only [bodyOf, Tryz.f103, SA]
  have hbz : ¬ ((b.n : Int) = 0) := by omega
  have hwb : IntKind.i64.wrap ((b.n : Int) - 1) = ((b.n - 1 : Nat) : Int) := by
    have := ho.bn
    rw [wrap64 (by omega) (by omega)]; omega
  have hz1 : (0 : Int) ≤ ((b.n - 1 : Nat) : Int) := by omega
  have hz2 : ((b.n - 1 : Nat) : Int) < (b.n : Int) := by omega
  have hbp : (l.reverse.map fun q => S [q.1, q.2.1]).length = b.n - 1 := by simp; omega
  have hcp : (l.reverse.map fun q => N (q.2.2 : Int)).length = c.n - 1 := by simp; omega
  have hhd : (b.cs.drop (b.n - 1)).head? = some (S [s, v]) := by
    rw [hbc, List.drop_append, List.drop_eq_nil_of_le (by omega), show b.n - 1 - (l.reverse.map fun q => S [q.1, q.2.1]).length = 0 by omega]
    rfl
  have hne : decide (((s + 2).toNat : Int) = ((s + 2).toNat : Int)) = true := by simp
  have hwc : IntKind.i64.wrap ((c.n : Int) - 1) = ((c.n - 1 : Nat) : Int) := by
    have := ho.cn
    rw [wrap64 (by omega) (by omega)]; omega
  have hy1 : (0 : Int) ≤ ((c.n - 1 : Nat) : Int) := by omega
  have hy2 : ((c.n - 1 : Nat) : Int) < (c.n : Int) := by omega
  have hhc : (c.cs.drop (c.n - 1)).head? = some (N n) := by
    rw [hcc, List.drop_append, List.drop_eq_nil_of_le (by omega), show c.n - 1 - (l.reverse.map fun q => N (q.2.2 : Int)).length = 0 by omega]
    rfl
  have hwn : IntKind.i64.wrap ((n : Int) + 1) = ((n + 1 : Nat) : Int) := by rw [wrap64 (by omega) (by omega)]; omega
  have hsl : decide ((a.n : Int) = ((n + 1 : Nat) : Int)) = false := by simp only [decide_eq_false_iff_not]; omega
  simp only [hσ, hbσ, hcσ, hbz, hwb, hz1, hz2, hhd, hwc, hy1, hy2, hhc, hwn, hsl, ho.bS, ho.cS, len_rw ra, wrap_u8_two, hne, Int.toNat_natCast, Nat.mul_one, Nat.zero_add, IA, PA, RA0, RA1, RA2, RA3, RA4, RA5, RA6, RA7, RA8, RA9, RA10, Nat.reduceAdd, Nat.reduceMul, Nat.reduceEqDiff, Nat.reduceLeDiff, Nat.reduceLT, Int.reduceToNat, Int.reduceLT, Int.reduceLE, Int.reduceEq, Int.reduceNeg, Int.reduceAdd, Int.reduceSub, Int.reduceMul, reduceIte]
  refine out_rows_one (x := B false) (ds := [da, .w ri 0 b.n, .w rj 0 c.n]) (ps := [rsV a, rsV b, rsV c]) (L := La ++ ([ri] ++ [rj])) ?_ (by rfl) (by exact hσ) hl hn (by rfl)
  simp only [IA, PA, RA0, RA1, RA2, RA3, RA4, RA5, RA6, RA7, RA8, RA9, RA10, Nat.reduceAdd, Nat.reduceMul, Nat.reduceEqDiff, Nat.reduceLeDiff, Nat.reduceLT, Int.reduceToNat, Int.reduceLT, Int.reduceLE, Int.reduceEq, Int.reduceNeg, Int.reduceAdd, Int.reduceSub, Int.reduceMul, reduceIte]
def cutR (b : RS) : RS := { b with n := b.n - 1, cs := b.cs.take ((b.n - 1) * b.sz) }
theorem BR.ended {p : PS} {a b c : RS} (h : BR p a b c) {s v : UInt8} {n : Nat} {l : List (UInt8 × UInt8 × Nat)} (hp : p.lp = (s, v, n) :: l) : BR ⟨p.st, l⟩ a (cutR b) (cutR c) := by
  have ho := h.ok
  obtain ⟨hbn, hcn, hbc, hcc⟩ := h.lps hp
  have hbp : (l.reverse.map fun q => S [q.1, q.2.1]).length = b.n - 1 := by simp; omega
  have hcp : (l.reverse.map fun q => N (q.2.2 : Int)).length = c.n - 1 := by simp; omega
  have eb : b.cs.take ((b.n - 1) * b.sz) = l.reverse.map fun q => S [q.1, q.2.1] := by rw [hbc, ho.bS, Nat.mul_one, List.take_append_of_le_length (by omega), List.take_of_length_le (by omega)]
  have ec : c.cs.take ((c.n - 1) * c.sz) = l.reverse.map fun q => N (q.2.2 : Int) := by rw [hcc, ho.cS, Nat.mul_one, List.take_append_of_le_length (by omega), List.take_of_length_le (by omega)]
  have hbb : b.b = true := by
    cases hb : b.b
    · have := (ho.hb.2.2 hb).1; omega
    · rfl
  have hcb : c.b = true := by
    cases hb : c.b
    · have := (ho.hc.2.2 hb).1; omega
    · rfl
  have cb := ho.hb.2.1
  have cc := ho.hc.2.1
  rw [hbc, closedL_append, Bool.and_eq_true] at cb
  rw [hcc, closedL_append, Bool.and_eq_true] at cc
  have h1 := ho.bn
  have h2 := ho.cn
  refine ⟨⟨ho.ha, ⟨?_, ?_, ?_⟩, ⟨?_, ?_, ?_⟩, ho.aE, ho.aS, ho.bE, ho.bS, ho.cE, ho.cS, ho.an, ?_, ?_⟩, h.an, h.ac, ?_, eb, ?_, ec⟩
  · show (b.cs.take ((b.n - 1) * b.sz)).length = (b.n - 1) * b.sz
    rw [eb, hbp, ho.bS]; omega
  · simp only [cutR, eb]; exact cb.1
  · simp only [cutR, hbb]; intro hh; cases hh
  · show (c.cs.take ((c.n - 1) * c.sz)).length = (c.n - 1) * c.sz
    rw [ec, hcp, ho.cS]; omega
  · simp only [cutR, ec]; exact cc.1
  · simp only [cutR, hcb]; intro hh; cases hh
  · simp only [cutR]; omega
  · simp only [cutR]; omega
  · simp only [cutR]; omega
  · simp only [cutR]; omega
theorem tk_cut {b : RS} (h : b.n ≠ 0) : tk (b.n - 1) b.n b.sz b.cs = (cutR b).cs := by
  unfold tk cutR
  rw [if_neg (by omega)]
theorem leaf_cut {σ : Sto} {b : RS} {r : Nat} (ho : rsOk b) (hσ : σ r = some (.row b.E b.sz b.n b.cs)) (hn : b.n ≠ 0) (hb : b.b = true) : leafP σ (.w r 0 (b.n - 1)) = some (rsV (cutR b), [r]) := by
  rw [leafP_part hσ ho.2.1 (by omega), tk_cut hn]
  simp only [rsV, cutR, hb, if_true]
theorem end_ok {p : PS} {a b c : RS} (h : BR p a b c) (x : UInt8) {s v : UInt8} {n : Nat} {l : List (UInt8 × UInt8 × Nat)} (hp : p.lp = (s, v, n) :: l) (hs : s + 2 = x) (hnb : n < 1000000000) (hlen : p.st.length = n + 1) {y z : T} {r r2 : List T} (hq : popP p.st n = some (y, r)) (hq2 : popP r (baseP l) = some (z, r2)) :
    EE 103 [lent 118 [rsV a, rsV b, rsV c], U x] = some (.t [B true, .t [lent 118 [rsV (pushR (popR (popR a (r.reverse.flatMap encN)) (r2.reverse.flatMap encN)) (encN (.loop s v z y))), rsV (cutR b), rsV (cutR c)], U x]]) := by
  have ho := h.ok
  have han := h.an
  obtain ⟨hbn, hcn, hbc, hcc⟩ := h.lps hp
  subst hs
  have hq' : popP p.st (baseP p.lp) = some (y, r) := by rw [hp]; exact hq
  have hpo := pop_br h hq'
  obtain ⟨hs1, hle1⟩ := popP_some hq'
  have h1 := h.popped hs1
  have ho1 := h1.ok
  have h2 := h1.ended (s := s) (v := v) (n := n) (l := l) hp
  have ho2 := h2.ok
  have hpo2 := pop_br h2 hq2
  obtain ⟨hs2, hle2⟩ := popP_some hq2
  have h3 := h2.popped hs2
  have ho3 := h3.ok
  have hpu := push_br h3 (.loop s v z y)
  have hok1 := in3 ho1.ha ho1.hb ho1.hc
  have hok3 := in3 ho3.ha ho3.hb ho3.hc
  have hok := in3 (pushR_ok ho3.ha ho3.aS (encN_len (.loop s v z y)) (encN_closed _)) ho3.hb ho3.hc
  refine EE_rows (os := [a, b, c]) (xs := [U (s + 2)]) T_end rfl (Nat.le_of_ble_eq_true rfl) (in3 ho.ha ho.hb ho.hc) rfl ?_
  intro ds σ k L hR hn hσ hL hk1 hk
  have hl := hR.leaf
  obtain ⟨da, db, dc, La, Lb, Lc, rfl, rfl, ra, rb, rc⟩ := rw3 hR
  obtain ⟨ri, hb', rfl, rfl, hbσ⟩ := rb.pos (by omega)
  obtain ⟨rj, hc', rfl, rfl, hcσ⟩ := rc.pos (by omega)
  rw [show opt 103 = [] from rfl]
  simp only [bodyOf, Tryz.f103, SA]
  have hbz : ¬ ((b.n : Int) = 0) := by omega
  have hwb : IntKind.i64.wrap ((b.n : Int) - 1) = ((b.n - 1 : Nat) : Int) := by
    have := ho.bn
    rw [wrap64 (by omega) (by omega)]; omega
  have hz1 : (0 : Int) ≤ ((b.n - 1 : Nat) : Int) := by omega
  have hz2 : ((b.n - 1 : Nat) : Int) < (b.n : Int) := by omega
  have hbp : (l.reverse.map fun q => S [q.1, q.2.1]).length = b.n - 1 := by simp; omega
  have hcp : (l.reverse.map fun q => N (q.2.2 : Int)).length = c.n - 1 := by simp; omega
  have hhd : (b.cs.drop (b.n - 1)).head? = some (S [s, v]) := by
    rw [hbc, List.drop_append, List.drop_eq_nil_of_le (by omega), show b.n - 1 - (l.reverse.map fun q => S [q.1, q.2.1]).length = 0 by omega]
    rfl
  have hne : decide (((s + 2).toNat : Int) = ((s + 2).toNat : Int)) = true := by simp
  have hwc : IntKind.i64.wrap ((c.n : Int) - 1) = ((c.n - 1 : Nat) : Int) := by
    have := ho.cn
    rw [wrap64 (by omega) (by omega)]; omega
  have hy1 : (0 : Int) ≤ ((c.n - 1 : Nat) : Int) := by omega
  have hy2 : ((c.n - 1 : Nat) : Int) < (c.n : Int) := by omega
  have hhc : (c.cs.drop (c.n - 1)).head? = some (N n) := by
    rw [hcc, List.drop_append, List.drop_eq_nil_of_le (by omega), show c.n - 1 - (l.reverse.map fun q => N (q.2.2 : Int)).length = 0 by omega]
    rfl
  have hwn : IntKind.i64.wrap ((n : Int) + 1) = ((n + 1 : Nat) : Int) := by rw [wrap64 (by omega) (by omega)]; omega
  have hsl : decide ((a.n : Int) = ((n + 1 : Nat) : Int)) = true := by simp only [decide_eq_true_eq]; omega
  simp only [hσ, hbσ, hcσ, hbz, hwb, hz1, hz2, hhd, hwc, hy1, hy2, hhc, hwn, hsl, ho.bS, ho.cS, len_rw ra, wrap_u8_two, hne, Int.toNat_natCast, Nat.mul_one, Nat.zero_add, IA, PA, RA0, RA1, RA2, RA3, RA4, RA5, RA6, RA7, RA8, RA9, RA10, Nat.reduceAdd, Nat.reduceMul, Nat.reduceEqDiff, Nat.reduceLeDiff, Nat.reduceLT, Int.reduceToNat, Int.reduceLT, Int.reduceLE, Int.reduceEq, Int.reduceNeg, Int.reduceAdd, Int.reduceSub, Int.reduceMul, reduceIte]
  rw [call_ob_eq (os' := [popR a (r.reverse.flatMap encN), b, c]) (by rfl) hσ hl hn (by rfl) (by exact hpo) hok1 (by simp only [closed, closedL, encN_closed, Bool.and_self]) (by simp only [room, closed, closedL, encN_closed, Bool.and_self]; exact Nat.le_of_ble_eq_true rfl)]
  generalize hτ : aftS _ _ _ _ _ _ = τ
  obtain ⟨ds1, L1, f11, f12, f13, f14, f15⟩ := aft_of hτ hok1 (by omega)
  clear hτ
  simp only [List.length_cons, List.length_nil] at f14
  obtain ⟨da1, db1, dc1, La1, Lb1, Lc1, rfl, rfl, ra1, rb1, rc1⟩ := rw3 f12
  obtain ⟨r1, hb1, rfl, rfl, hbτ⟩ := rb1.pos (by omega)
  obtain ⟨r3, hc1, rfl, rfl, hcτ⟩ := rc1.pos (by omega)
  have hz3 : ((b.n - 1 : Nat) : Int) ≤ (b.n : Int) := by omega
  have hy3 : ((c.n - 1 : Nat) : Int) ≤ (c.n : Int) := by omega
  simp only [f11, hbτ, hcτ, hwb, hz1, hz2, hz3, hwc, hy1, hy2, hy3, cut_w_hi, Int.toNat_natCast, TMA, IA, PA, RA0, RA1, RA2, RA3, RA4, RA5, RA6, RA7, RA8, RA9, RA10, Nat.reduceAdd, Nat.reduceMul, Nat.reduceEqDiff, Nat.reduceLeDiff, Nat.reduceLT, Int.reduceToNat, Int.reduceLT, Int.reduceLE, Int.reduceEq, Int.reduceNeg, Int.reduceAdd, Int.reduceSub, Int.reduceMul, reduceIte]
  have g1 := f14 r1 (by simp)
  have g3 := f14 r3 (by simp)
  rw [call_ob_eq (os' := [popR (popR a (r.reverse.flatMap encN)) (r2.reverse.flatMap encN), cutR b, cutR c]) (by rfl) (by rfl) (leaf3 (ra1.frame (fun q hq => by have := f14 q (by simp [hq]); simp only [upd]; repeat rw [if_neg (by omega)])).leaf (leaf_cut ho.hb (by simp only [upd]; (repeat rw [if_neg (by omega)]); exact hbτ) (by omega) hb1) (leaf_cut ho.hc (by simp only [upd]; (repeat rw [if_neg (by omega)]); exact hcτ) (by omega) hc1)) f13 (by rfl) (by exact hpo2) hok3 (by simp only [closed, closedL, encN_closed, Bool.and_self]) (by simp only [room, closed, closedL, encN_closed, Bool.and_self]; exact Nat.le_of_ble_eq_true rfl)]
  generalize hτ2 : aftS _ _ _ _ _ _ = τ2
  obtain ⟨ds2, L2, f21, f22, f23, f24, f25⟩ := aft_of hτ2 hok3 (by omega)
  clear hτ2
  simp only [List.length_cons, List.length_nil] at f24
  have hbx : τ2 (k + 4 + 180 + 52 + 20) = some (.ob 66 (encN y)) := by
    rw [f25 _ (by omega) (fun hm => by have := f14 _ hm; omega) (.inl (by omega))]
    simp only [upd]
    rw [if_neg (by omega), if_neg (by omega)]
    simp only [if_true]
  have hnk : ¬ (k = k + 152) := by omega
  simp only [f21, hbx, hnk, TMA, IA, PA, RA0, RA1, RA2, RA3, RA4, RA5, RA6, RA7, RA8, RA9, RA10, Nat.reduceAdd, Nat.reduceMul, Nat.reduceEqDiff, Nat.reduceLeDiff, Nat.reduceLT, Int.reduceToNat, Int.reduceLT, Int.reduceLE, Int.reduceEq, Int.reduceNeg, Int.reduceAdd, Int.reduceSub, Int.reduceMul, reduceIte]
  rw [call_ob_eq (os' := [pushR (popR (popR a (r.reverse.flatMap encN)) (r2.reverse.flatMap encN)) (encN (.loop s v z y)), cutR b, cutR c]) (by rfl) (by simp only [upd]; (repeat rw [if_neg (by omega)]); exact f21) (f22.frame (fun r hr => by have := f24 r hr; simp only [upd]; repeat rw [if_neg (by omega)])).leaf f23 (by simp only [List.all_cons, List.all_nil, goes, closed, closedL, closedL_append, encN_closed, Bool.and_self]) (by exact hpu) hok (by rfl) (Nat.le_of_ble_eq_true rfl)]
  generalize hτ3 : aftS _ _ _ _ _ _ = τ3
  obtain ⟨ds3, L3, f31, f32, f33, f34, f35⟩ := aft_of hτ3 hok (by omega)
  clear hτ3
  simp only [List.length_cons, List.length_nil] at f34
  simp only [f31, TMA, IA, PA, RA0, RA1, RA2, RA3, RA4, RA5, RA6, RA7, RA8, RA9, RA10, Nat.reduceAdd, Nat.reduceMul, Nat.reduceEqDiff, Nat.reduceLeDiff, Nat.reduceLT, Int.reduceToNat, Int.reduceLT, Int.reduceLE, Int.reduceEq, Int.reduceNeg, Int.reduceAdd, Int.reduceSub, Int.reduceMul, reduceIte]
  refine out_rows_one (x := B true) (ds := ds3) (ps := [rsV (pushR (popR (popR a (r.reverse.flatMap encN)) (r2.reverse.flatMap encN)) (encN (.loop s v z y))), rsV (cutR b), rsV (cutR c)]) (L := L3) ?_ (by rfl) (by exact f31) f32.leaf f33 (by rfl)
  simp only [IA, PA, RA0, RA1, RA2, RA3, RA4, RA5, RA6, RA7, RA8, RA9, RA10, Nat.reduceAdd, Nat.reduceMul, Nat.reduceEqDiff, Nat.reduceLeDiff, Nat.reduceLT, Int.reduceToNat, Int.reduceLT, Int.reduceLE, Int.reduceEq, Int.reduceNeg, Int.reduceAdd, Int.reduceSub, Int.reduceMul, reduceIte]
end
end Go.Proofs.YtegbkihgnofkfaaGreatDoor.Ev
