/-
Texts Ue to Uf of the work.
-/
import Derived.Test.YtegbkihgnofkfaaGreatDoorZE4
/-
Code: the reference's builder.
-/
namespace Go.Proofs.YtegbkihgnofkfaaGreatDoor.Ev
section
set_option linter.unusedVariables false
set_option linter.unusedSimpArgs false
open Go Go.RowKit
set_option linter.unusedVariables false
set_option linter.unusedSimpArgs false
theorem T_pop : TT 102 = some (Tryz.f102, bodyOf Tryz.f102) := by kernel_rfl
theorem T_do : TT 87 = some (Tryz.f87, bodyOf Tryz.f87) := by kernel_rfl
theorem T_end : TT 103 = some (Tryz.f103, bodyOf Tryz.f103) := by kernel_rfl
theorem T_l7Build : TT 61 = some (Tryz.f61, bodyOf Tryz.f61) := by kernel_rfl
theorem T_push : TT 101 = some (Tryz.f101, bodyOf Tryz.f101) := by kernel_rfl
/-- The reference's builder as it is lent: terms, signs of loops, bases. -/
structure BOk (a b c : RS) : Prop where
  ha : rsOk a
  hb : rsOk b
  hc : rsOk c
  aE : a.E = 66
  aS : a.sz = 3
  bE : b.E = 9
  bS : b.sz = 1
  cE : c.E = 3
  cS : c.sz = 1
  an : a.n < 1000000000
  bn : b.n < 1000000000
  cn : c.n < 1000000000
def zeroN : List AV := [U 0, U 0, .s true 0 []]
/-- The base: the last of the bases, or 0. -/
def IsBase (c : RS) (base : Nat) : Prop := (c.n = 0 ∧ base = 0) ∨ (c.n ≠ 0 ∧ ∃ pre, c.cs = pre ++ [N (base : Int)] ∧ pre.length + 1 = c.n)
theorem pop_none (a b c : RS) (h : BOk a b c) (base : Nat) (hbs : IsBase c base) (hle : a.n ≤ base) (hbl : base < 1000000000) :
    EE 102 [lent 118 [rsV a, rsV b, rsV c]] = some (.t [.t [.a zeroN, B false], .t [lent 118 [rsV a, rsV b, rsV c]]]) := by
  refine EE_rows (os := [a, b, c]) (xs := []) T_pop rfl (by decide) (by
    intro o ho
    simp only [List.mem_cons, List.not_mem_nil, or_false] at ho
    rcases ho with rfl | rfl | rfl
    · exact h.ha
    · exact h.hb
    · exact h.hc) rfl ?_
  intro ds σ k L hR hn hσ hL hk1 hk
  obtain ⟨da, db, dc, La, Lb, Lc, rfl, rfl, ra, rb, rc⟩ := rw3 hR
  rw [show opt 102 = [oLow 6, oHi 66] from rfl]
  simp only [bodyOf, Tryz.f102, SA]
  have hk0 : ¬ (0 = k) := by omega
  have hn' : ∀ r ∈ La ++ (Lb ++ Lc), r ≠ k := fun r hr => by have := (hL r hr).2; omega
  have rc' : ∀ X, Rw (upd σ k X) c dc Lc := fun X => rc.frame fun r hr => upd_ne _ _ _ _ (hn' r (by simp [hr]))
  have ra' : ∀ X, Rw (upd σ k X) a da La := fun X => ra.frame fun r hr => upd_ne _ _ _ _ (hn' r (by simp [hr]))
  simp only [hσ, hk0, len_rw (rc' _), len_rw (ra' _), IA, PA, RA0, RA1, RA2, RA3, RA4, RA5, RA6, RA7, RA8, RA9, RA10, Nat.reduceAdd, Nat.reduceMul, Nat.reduceEqDiff, Nat.reduceLeDiff, Nat.reduceLT, Int.reduceToNat, Int.reduceLT, Int.reduceLE, Int.reduceEq, Int.reduceNeg, Int.reduceAdd, Int.reduceSub, Int.reduceMul, reduceIte]
  have hle' : ((a.n : Int) ≤ (base : Int)) := by omega
  rcases hbs with ⟨hc0, rfl⟩ | ⟨hc0, pre, hcs, hpl⟩
  · have hlt : ¬ ((0 : Int) < (c.n : Int)) := by omega
    have hle0 : ((a.n : Int) ≤ 0) := by omega
    simp only [hlt, hσ, hk0, hle0, len_rw (rc' _), len_rw (ra' _), IA, PA, RA0, RA1, RA2, RA3, RA4, RA5, RA6, RA7, RA8, RA9, RA10, Nat.reduceAdd, Nat.reduceMul, Nat.reduceEqDiff, Nat.reduceLeDiff, Nat.reduceLT, Int.reduceToNat, Int.reduceLT, Int.reduceLE, Int.reduceEq, Int.reduceNeg, Int.reduceAdd, Int.reduceSub, Int.reduceMul, reduceIte]
    refine out_rows_two (ds := [da, db, dc]) (ps := [rsV a, rsV b, rsV c]) (L := La ++ (Lb ++ Lc)) ?_ (by rfl) ?_ ?_ hn (by rfl)
    · simp only [hk0, IA, PA, RA0, RA1, RA2, RA3, RA4, RA5, RA6, RA7, RA8, RA9, RA10, Nat.reduceAdd, Nat.reduceMul, Nat.reduceEqDiff, Nat.reduceLeDiff, Nat.reduceLT, Int.reduceToNat, Int.reduceLT, Int.reduceLE, Int.reduceEq, Int.reduceNeg, Int.reduceAdd, Int.reduceSub, Int.reduceMul, reduceIte]
      rfl
    · simp only [upd, hk0, if_false, hσ]
    · exact leaf3 (ra.frame fun r hr => by simp only [upd, if_neg (hn' r (by simp [hr]))]).leaf (rb.frame fun r hr => by simp only [upd, if_neg (hn' r (by simp [hr]))]).leaf (rc.frame fun r hr => by simp only [upd, if_neg (hn' r (by simp [hr]))]).leaf
  · have hlt : ((0 : Int) < (c.n : Int)) := by omega
    obtain ⟨r, hcb, rfl, rfl, hcσ⟩ := rc.pos hc0
    have hrk : ¬ (r = k) := hn' r (by simp)
    have hw : IntKind.i64.wrap ((c.n : Int) - 1) = ((c.n - 1 : Nat) : Int) := by
      have := h.cn
      rw [wrap64 (by omega) (by omega)]; omega
    have hz1 : (0 : Int) ≤ ((c.n - 1 : Nat) : Int) := by omega
    have hz2 : ((c.n - 1 : Nat) : Int) < (c.n : Int) := by omega
    have hhd : (c.cs.drop (c.n - 1)).head? = some (N base) := by
      rw [hcs, List.drop_append, List.drop_eq_nil_of_le (by omega), show c.n - 1 - pre.length = 0 by omega]
      rfl
    simp only [hlt, hσ, hk0, hrk, hcσ, hw, hz1, hz2, hhd, hle', h.cS, Int.toNat_natCast, Nat.mul_one, Nat.zero_add, len_rw (ra' _), IA, PA, RA0, RA1, RA2, RA3, RA4, RA5, RA6, RA7, RA8, RA9, RA10, Nat.reduceAdd, Nat.reduceMul, Nat.reduceEqDiff, Nat.reduceLeDiff, Nat.reduceLT, Int.reduceToNat, Int.reduceLT, Int.reduceLE, Int.reduceEq, Int.reduceNeg, Int.reduceAdd, Int.reduceSub, Int.reduceMul, reduceIte]
    refine out_rows_two (ds := [da, db, .w r 0 c.n]) (ps := [rsV a, rsV b, rsV c]) (L := La ++ (Lb ++ [r])) ?_ (by rfl) ?_ ?_ hn (by rfl)
    · simp only [hk0, IA, PA, RA0, RA1, RA2, RA3, RA4, RA5, RA6, RA7, RA8, RA9, RA10, Nat.reduceAdd, Nat.reduceMul, Nat.reduceEqDiff, Nat.reduceLeDiff, Nat.reduceLT, Int.reduceToNat, Int.reduceLT, Int.reduceLE, Int.reduceEq, Int.reduceNeg, Int.reduceAdd, Int.reduceSub, Int.reduceMul, reduceIte]
      rfl
    · simp only [upd, hk0, if_false, hσ]
    · exact leaf3 (ra.frame fun r' hr => by simp only [upd, if_neg (hn' r' (by simp [hr]))]).leaf (rb.frame fun r' hr => by simp only [upd, if_neg (hn' r' (by simp [hr]))]).leaf (rc.frame fun r' hr => by simp only [upd, if_neg (hn' r' (by simp [hr]))]).leaf
theorem pop_some (a b c : RS) (h : BOk a b c) (base : Nat) (hbs : IsBase c base) (hle : base < a.n) (pa : List AV) (cell : List AV) (hcs : a.cs = pa ++ cell) (hcl : cell.length = 3) (hlf : cell.all leafOk = true) (hpa : pa.length + 3 = a.n * 3) :
    EE 102 [lent 118 [rsV a, rsV b, rsV c]] = some (.t [.t [.a cell, B true], .t [lent 118 [rsV { a with n := a.n - 1, cs := pa }, rsV b, rsV c]]]) := by
  refine EE_rows (os := [a, b, c]) (xs := []) T_pop rfl (by decide) (by
    intro o ho
    simp only [List.mem_cons, List.not_mem_nil, or_false] at ho
    rcases ho with rfl | rfl | rfl
    · exact h.ha
    · exact h.hb
    · exact h.hc) rfl ?_
  intro ds σ k L hR hn hσ hL hk1 hk
  obtain ⟨da, db, dc, La, Lb, Lc, rfl, rfl, ra, rb, rc⟩ := rw3 hR
  have ha0 : a.n ≠ 0 := by omega
  obtain ⟨ri, hab, rfl, rfl, haσ⟩ := ra.pos ha0
  rw [show opt 102 = [oLow 6, oHi 66] from rfl]
  simp only [bodyOf, Tryz.f102, SA]
  have hk0 : ¬ (0 = k) := by omega
  have h0k : 0 < k := by omega
  have hn' : ∀ r ∈ [ri] ++ (Lb ++ Lc), r ≠ k := fun r hr => by have := (hL r hr).2; omega
  have hrik : ¬ (ri = k) := hn' ri (by simp)
  have hri0 : ¬ (ri = 0) := by have := (hL ri (by simp)).1; omega
  have hrilt : ri < k := (hL ri (by simp)).2
  have rc' : ∀ X, Rw (upd σ k X) c dc Lc := fun X => rc.frame fun r hr => upd_ne _ _ _ _ (hn' r (by simp [hr]))
  have hle' : ¬ ((a.n : Int) ≤ (base : Int)) := by omega
  have hwa : IntKind.i64.wrap ((a.n : Int) - 1) = ((a.n - 1 : Nat) : Int) := by
    have := h.an
    rw [wrap64 (by omega) (by omega)]; omega
  have ha1 : (0 : Int) ≤ ((a.n - 1 : Nat) : Int) := by omega
  have ha2 : ((a.n - 1 : Nat) : Int) < (a.n : Int) := by omega
  have ha3 : ((a.n - 1 : Nat) : Int) ≤ (a.n : Int) := by omega
  have hdr : a.cs.drop ((a.n - 1) * 3) = cell := by
    rw [hcs, List.drop_append, List.drop_eq_nil_of_le (by omega), show (a.n - 1) * 3 - pa.length = 0 by omega]
    rfl
  rcases hbs with ⟨hc0, rfl⟩ | ⟨hc0, pre, hcs', hpl⟩
  · have hlt : ¬ ((0 : Int) < (c.n : Int)) := by omega
    have hle0 : ¬ ((a.n : Int) ≤ 0) := by omega
    simp only [hlt, hσ, hk0, h0k, hrik, hrilt, haσ, hle0, hwa, ha1, ha2, ha3, hdr, h.aS, Int.toNat_natCast, Nat.zero_add, len_rw (rc' _), IA, PA, RA0, RA1, RA2, RA3, RA4, RA5, RA6, RA7, RA8, RA9, RA10, Nat.reduceAdd, Nat.reduceMul, Nat.reduceEqDiff, Nat.reduceLeDiff, Nat.reduceLT, Int.reduceToNat, Int.reduceLT, Int.reduceLE, Int.reduceEq, Int.reduceNeg, Int.reduceAdd, Int.reduceSub, Int.reduceMul, reduceIte]
    have hct : List.take 3 cell = cell := List.take_of_length_le (by omega)
    rw [if_pos (by omega), if_pos (by omega), if_pos (by omega), if_pos (by omega), if_pos (by simp), hct, if_pos ⟨hcl, hlf⟩, if_pos (by omega)]
    have hk0' : ¬ (k = 0) := by omega
    have hk48 : ¬ (k = k + 8 + 4 + 24 + 28 + 48) := by omega
    have hz48 : ¬ (0 = k + 8 + 4 + 24 + 28 + 48) := by omega
    have hr48 : ¬ (ri = k + 8 + 4 + 24 + 28 + 48) := by omega
    simp only [hk0', hk48, hcl, hct, hlf, hσ, hk0, h0k, hrik, hrilt, haσ, hwa, ha1, ha2, ha3, hdr, h.aS, cut_w_hi, Int.toNat_natCast, Nat.zero_add, RR, IA, PA, RA0, RA1, RA2, RA3, RA4, RA5, RA6, RA7, RA8, RA9, RA10, Nat.reduceAdd, Nat.reduceMul, Nat.reduceEqDiff, Nat.reduceLeDiff, Nat.reduceLT, Int.reduceToNat, Int.reduceLT, Int.reduceLE, Int.reduceEq, Int.reduceNeg, Int.reduceAdd, Int.reduceSub, Int.reduceMul, reduceIte]
    have hcc : closedL cell = true := by
      have := h.ha.2.1
      rw [hcs, closedL_append] at this
      exact (Bool.and_eq_true_iff.1 this).2
    refine out_rows_two (x := .a cell) (y := B true) (zs := []) (xs := []) (ds := [.w ri 0 (a.n - 1), db, dc]) (ps := [rsV ⟨a.b, a.E, 3, a.n - 1, pa⟩, rsV b, rsV c]) (L := [ri] ++ (Lb ++ Lc)) ?_ (by
      simp only [closedL, closed, hcc, Bool.and_self]) ?_ ?_ hn (by rfl)
    · simp only [hk0, hct, hcl, IA, PA, RA0, RA1, RA2, RA3, RA4, RA5, RA6, RA7, RA8, RA9, RA10, Nat.reduceAdd, Nat.reduceMul, Nat.reduceEqDiff, Nat.reduceLeDiff, Nat.reduceLT, Int.reduceToNat, Int.reduceLT, Int.reduceLE, Int.reduceEq, Int.reduceNeg, Int.reduceAdd, Int.reduceSub, Int.reduceMul, reduceIte]
    · simp only [upd, hk0, if_false, if_true]
    · have hfr : ∀ r ∈ [ri] ++ (Lb ++ Lc), ¬ (r = k) ∧ ¬ (r = 0) ∧ ¬ (r = k + 8 + 4 + 24 + 28 + 48) := fun r hr => by
        have := hL r hr
        omega
      have htk : tk (a.n - 1) a.n a.sz a.cs = pa := by
        unfold tk
        rw [if_neg (by omega), h.aS, hcs, List.take_append_of_le_length (by omega), List.take_of_length_le (by omega)]
      refine leaf3 ?_ (rb.frame fun r hr => ?_).leaf (rc.frame fun r hr => ?_).leaf
      · rw [leafP_part (n' := a.n) (cs := a.cs) (E := a.E) (sz := a.sz) (by
          obtain ⟨q1, q2, q3⟩ := hfr ri (by simp)
          simp only [upd, if_neg q1, if_neg q2, if_neg q3, haσ]) h.ha.2.1 (by omega), htk, h.aS]
        simp only [rsV, hab, if_true]
      · obtain ⟨q1, q2, q3⟩ := hfr r (by simp [hr])
        simp only [upd, if_neg q1, if_neg q2, if_neg q3]
      · obtain ⟨q1, q2, q3⟩ := hfr r (by simp [hr])
        simp only [upd, if_neg q1, if_neg q2, if_neg q3]
  · have hlt : ((0 : Int) < (c.n : Int)) := by omega
    obtain ⟨rr, hcb, rfl, rfl, hcσ⟩ := rc.pos hc0
    have hrk : ¬ (rr = k) := hn' rr (by simp)
    have hwc : IntKind.i64.wrap ((c.n : Int) - 1) = ((c.n - 1 : Nat) : Int) := by
      have := h.cn
      rw [wrap64 (by omega) (by omega)]; omega
    have hz1 : (0 : Int) ≤ ((c.n - 1 : Nat) : Int) := by omega
    have hz2 : ((c.n - 1 : Nat) : Int) < (c.n : Int) := by omega
    have hhd : (c.cs.drop (c.n - 1)).head? = some (N base) := by
      rw [hcs', List.drop_append, List.drop_eq_nil_of_le (by omega), show c.n - 1 - pre.length = 0 by omega]
      rfl
    simp only [hlt, hσ, hk0, h0k, hrik, hrilt, haσ, hrk, hcσ, hwc, hz1, hz2, hhd, hle', h.cS, Nat.mul_one, hwa, ha1, ha2, ha3, hdr, h.aS, Int.toNat_natCast, Nat.zero_add, IA, PA, RA0, RA1, RA2, RA3, RA4, RA5, RA6, RA7, RA8, RA9, RA10, Nat.reduceAdd, Nat.reduceMul, Nat.reduceEqDiff, Nat.reduceLeDiff, Nat.reduceLT, Int.reduceToNat, Int.reduceLT, Int.reduceLE, Int.reduceEq, Int.reduceNeg, Int.reduceAdd, Int.reduceSub, Int.reduceMul, reduceIte]
    have hct : List.take 3 cell = cell := List.take_of_length_le (by omega)
    rw [if_pos (by omega), if_pos (by omega), if_pos (by omega), if_pos (by omega), if_pos (by simp), hct, if_pos ⟨hcl, hlf⟩, if_pos (by omega)]
    have hk0' : ¬ (k = 0) := by omega
    have hk48 : ¬ (k = k + 8 + 4 + 24 + 52 + 28 + 48) := by omega
    have hz48 : ¬ (0 = k + 8 + 4 + 24 + 52 + 28 + 48) := by omega
    have hr48 : ¬ (ri = k + 8 + 4 + 24 + 52 + 28 + 48) := by omega
    simp only [hk0', hk48, hcl, hct, hlf, hσ, hk0, h0k, hrik, hrilt, haσ, hwa, ha1, ha2, ha3, hdr, h.aS, cut_w_hi, Int.toNat_natCast, Nat.zero_add, RR, IA, PA, RA0, RA1, RA2, RA3, RA4, RA5, RA6, RA7, RA8, RA9, RA10, Nat.reduceAdd, Nat.reduceMul, Nat.reduceEqDiff, Nat.reduceLeDiff, Nat.reduceLT, Int.reduceToNat, Int.reduceLT, Int.reduceLE, Int.reduceEq, Int.reduceNeg, Int.reduceAdd, Int.reduceSub, Int.reduceMul, reduceIte]
    have hcc : closedL cell = true := by
      have := h.ha.2.1
      rw [hcs, closedL_append] at this
      exact (Bool.and_eq_true_iff.1 this).2
    refine out_rows_two (x := .a cell) (y := B true) (zs := []) (xs := []) (ds := [.w ri 0 (a.n - 1), db, .w rr 0 c.n]) (ps := [rsV ⟨a.b, a.E, 3, a.n - 1, pa⟩, rsV b, rsV c]) (L := [ri] ++ (Lb ++ [rr])) ?_ (by
      simp only [closedL, closed, hcc, Bool.and_self]) ?_ ?_ hn (by rfl)
    · simp only [hk0, hct, hcl, IA, PA, RA0, RA1, RA2, RA3, RA4, RA5, RA6, RA7, RA8, RA9, RA10, Nat.reduceAdd, Nat.reduceMul, Nat.reduceEqDiff, Nat.reduceLeDiff, Nat.reduceLT, Int.reduceToNat, Int.reduceLT, Int.reduceLE, Int.reduceEq, Int.reduceNeg, Int.reduceAdd, Int.reduceSub, Int.reduceMul, reduceIte]
    · simp only [upd, hk0, if_false, if_true]
    · have hfr : ∀ r ∈ [ri] ++ (Lb ++ [rr]), ¬ (r = k) ∧ ¬ (r = 0) ∧ ¬ (r = k + 8 + 4 + 24 + 52 + 28 + 48) := fun r hr => by
        have := hL r hr
        omega
      have htk : tk (a.n - 1) a.n a.sz a.cs = pa := by
        unfold tk
        rw [if_neg (by omega), h.aS, hcs, List.take_append_of_le_length (by omega), List.take_of_length_le (by omega)]
      refine leaf3 ?_ (rb.frame fun r hr => ?_).leaf (rc.frame fun r hr => ?_).leaf
      · rw [leafP_part (n' := a.n) (cs := a.cs) (E := a.E) (sz := a.sz) (by
          obtain ⟨q1, q2, q3⟩ := hfr ri (by simp)
          simp only [upd, if_neg q1, if_neg q2, if_neg q3, haσ]) h.ha.2.1 (by omega), htk, h.aS]
        simp only [rsV, hab, if_true]
      · obtain ⟨q1, q2, q3⟩ := hfr r (List.mem_append_right _ (List.mem_append_left _ hr))
        simp only [upd, if_neg q1, if_neg q2, if_neg q3]
      · obtain ⟨q1, q2, q3⟩ := hfr r (List.mem_append_right _ (List.mem_append_right _ hr))
        simp only [upd, if_neg q1, if_neg q2, if_neg q3]
end
end Go.Proofs.YtegbkihgnofkfaaGreatDoor.Ev

/-
Code: the reference's builder: a term is put onto the stack.
-/
namespace Go.Proofs.YtegbkihgnofkfaaGreatDoor.Ev
section
set_option linter.unusedVariables false
set_option linter.unusedSimpArgs false
open Go Go.RowKit
set_option linter.unusedVariables false
set_option linter.unusedSimpArgs false
def pushR (a : RS) (cell : List AV) : RS := ⟨true, 66, 3, a.n + 1, a.cs ++ cell⟩
theorem push_ok (a b c : RS) (h : BOk a b c) (cell : List AV) (hcl : cell.length = 3) (hlf : cell.all leafOk = true) (hcc : closedL cell = true) :
    EE 101 [lent 118 [rsV a, rsV b, rsV c], .a cell] = some (.t [.t [], .t [lent 118 [rsV (pushR a cell), rsV b, rsV c], .a cell]]) := by
  refine EE_rows (os := [a, b, c]) (xs := [.a cell]) T_push rfl (Nat.le_of_ble_eq_true rfl) (by
    intro o ho
    simp only [List.mem_cons, List.not_mem_nil, or_false] at ho
    rcases ho with rfl | rfl | rfl
    · exact h.ha
    · exact h.hb
    · exact h.hc) (by simp only [List.all_cons, goes, closed, hcc, List.all_nil, Bool.and_self]) ?_
  intro ds σ k L hR hn hσ hL hk1 hk
  obtain ⟨da, db, dc, La, Lb, Lc, rfl, rfl, ra, rb, rc⟩ := rw3 hR
  rw [show opt 101 = [oLow 1, oHi 66] from rfl]
  simp only [bodyOf, Tryz.f101, SA]
  have hk0 : ¬ (0 = k) := by omega
  have h0k : 0 < k := by omega
  have hn' : ∀ r ∈ La ++ (Lb ++ Lc), r ≠ k := fun r hr => by have := (hL r hr).2; omega
  have ra' : ∀ X, Rw (upd σ k X) a da La := fun X => ra.frame fun r hr => upd_ne _ _ _ _ (hn' r (by simp [hr]))
  have hlt : ∀ r ∈ La, r < k + 4 := fun r hr => by have := (hL r (by simp [hr])).2; omega
  have hlst := (ra' (some (.ob 66 cell))).lst hlt
  rw [h.aE, h.aS] at hlst
  have hb4 : k < k + 4 := by omega
  have hb0 : 0 < k + 4 := by omega
  have hct : List.take 3 cell = cell := List.take_of_length_le (by omega)
  have han := h.an
  simp only [hσ, hk0, h0k, hcl, hlf, hb4, hb0, hct, len_rw (ra' _), RR, IA, PA, RA0, RA1, RA2, RA3, RA4, RA5, RA6, RA7, RA8, RA9, RA10, Nat.reduceAdd, Nat.reduceMul, Nat.reduceEqDiff, Nat.reduceLeDiff, Nat.reduceLT, Int.reduceToNat, Int.reduceLT, Int.reduceLE, Int.reduceEq, Int.reduceNeg, Int.reduceAdd, Int.reduceSub, Int.reduceMul, reduceIte]
  rw [lst_app hlst (by decide) (by rfl) (by rfl) (by decide) (by omega) (by omega) (by omega)]
  have h4n : ∀ id lo n, da = .w id lo n → id ≠ 0 ∧ id ≠ k ∧ id < k := by
    intro id lo n hda
    rcases ra with ⟨h0, ⟨hb, rfl, rfl⟩ | ⟨r, hb, rfl, rfl, hσr⟩⟩
    · cases hda
    · cases hda
      have := hL id (by simp)
      omega
  obtain ⟨τ, hτ⟩ : ∃ τ, τ = appSto (upd σ k (some (.ob 66 cell))) (k + 4 + 28) 66 3 da (a.n + 1) (a.cs ++ [ofC0 (.int .u8 0), ofC0 (.int .u8 0), ofC0 (.slice none 0 0)]) := ⟨_, rfl⟩
  have t1 : τ (k + 4 + 28) = some (.row 66 3 (a.n + 1) (a.cs ++ [ofC0 (.int .u8 0), ofC0 (.int .u8 0), ofC0 (.slice none 0 0)])) := by rw [hτ]; exact appSto_key ..
  have t2 : ∀ i, i ≠ k + 4 + 28 → (∀ id lo n, da = .w id lo n → i ≠ id) → τ i = upd σ k (some (.ob 66 cell)) i := by rw [hτ]; exact fun i h1 h2 => appSto_other h1 h2
  rw [← hτ]
  have t3 : τ 0 = some (.ob 118 [da, db, dc]) := by
    rw [t2 0 (by omega) (fun id lo n hda => (h4n id lo n hda).1.symm), upd, if_neg hk0, hσ]
  clear hτ
  simp only [t1, t3, hcl, hlf, hb4, hb0, hct, RR, IA, PA, RA0, RA1, RA2, RA3, RA4, RA5, RA6, RA7, RA8, RA9, RA10, Nat.reduceAdd, Nat.reduceMul, Nat.reduceEqDiff, Nat.reduceLeDiff, Nat.reduceLT, Int.reduceToNat, Int.reduceLT, Int.reduceLE, Int.reduceEq, Int.reduceNeg, Int.reduceAdd, Int.reduceSub, Int.reduceMul, reduceIte]
  have hla : a.cs.length = a.n * 3 := by have := h.ha.1; rw [h.aS] at this; exact this
  rw [if_pos (by omega), if_pos (by simp), if_pos (by simp only [List.length_append, List.length_cons, List.length_nil]; omega)]
  have hcells : List.take (a.n * 3) (a.cs ++ [ofC0 (.int .u8 0), ofC0 (.int .u8 0), ofC0 (.slice none 0 0)]) ++ cell ++ List.drop (a.n * 3 + 3) (a.cs ++ [ofC0 (.int .u8 0), ofC0 (.int .u8 0), ofC0 (.slice none 0 0)]) = a.cs ++ cell := by
    rw [← hla, List.take_append_of_le_length (Nat.le_refl _), List.take_length, List.drop_eq_nil_of_le (by simp), List.append_nil]
  rw [hcells]
  have hfr : ∀ r ∈ Lb ++ Lc, ¬ (r = 0) ∧ ¬ (r = k) ∧ ¬ (r = k + 4 + 28) ∧ (∀ id lo n, da = .w id lo n → r ≠ id) := fun r hr => by
    have h1 := hL r (List.mem_append_right _ hr)
    refine ⟨by omega, by omega, by omega, fun id lo n hda he => ?_⟩
    rcases ra with ⟨h0, ⟨hb, rfl, rfl⟩ | ⟨r', hb, rfl, rfl, hσr⟩⟩
    · cases hda
    · cases hda
      subst he
      have := (List.nodup_cons.1 hn).2
      simp only [List.singleton_append] at this
      exact (List.nodup_cons.1 this).1 hr
  have hfr2 : ∀ (X Y : Slot) r, r ∈ Lb ++ Lc → upd (upd τ (k + 4 + 28) (some X)) 0 (some Y) r = σ r := fun X Y r hr => by
    obtain ⟨q1, q2, q3, q4⟩ := hfr r hr
    simp only [upd, if_neg q1, if_neg q3]
    rw [t2 r q3 q4, upd, if_neg q2]
  have hkk : ¬ (k + 4 + 28 = 0) := by omega
  refine out_rows_none (ds := [.w (k + 4 + 28) 0 (a.n + 1), db, dc]) (ps := [rsV (pushR a cell), rsV b, rsV c]) (L := [k + 4 + 28] ++ (Lb ++ Lc)) (by intro i hi; cases hi) (by rfl) (by rfl) ?_ ?_ (by simp only [List.all_cons, goes, closed, hcc, List.all_nil, Bool.and_self])
  · refine leaf3 ?_ (rb.frame fun r hr => hfr2 _ _ r (List.mem_append_left _ hr)).leaf (rc.frame fun r hr => hfr2 _ _ r (List.mem_append_right _ hr)).leaf
    rw [leafP_row (E := 66) (sz := 3) (n := a.n + 1) (cs := a.cs ++ cell) (by simp only [upd, if_neg hkk, if_true]) (by rw [closedL_append, h.ha.2.1, hcc]; rfl)]
    simp only [rsV, pushR, if_true]
  · have h1 := List.nodup_cons.1 hn
    have h2 := (List.nodup_append.1 h1.2).2.1
    refine List.nodup_cons.2 ⟨?_, ?_⟩
    · simp only [List.singleton_append, List.mem_cons, not_or]
      exact ⟨by omega, fun hr => (hfr 0 hr).1 rfl⟩
    · simp only [List.singleton_append]
      exact List.nodup_cons.2 ⟨fun hr => (hfr _ hr).2.2.1 rfl, h2⟩
end
end Go.Proofs.YtegbkihgnofkfaaGreatDoor.Ev
