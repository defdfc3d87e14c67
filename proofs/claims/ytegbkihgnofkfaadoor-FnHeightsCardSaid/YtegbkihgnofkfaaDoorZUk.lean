/-
Texts Uk to Uk of the work.
-/
import Derived.Test.YtegbkihgnofkfaaDoorZUj
/-
Code: what the reference's builder does at any instruction.
-/
namespace Go.Proofs.YtegbkihgnofkfaaDoor.Ev
section
set_option linter.unusedVariables false
set_option linter.unusedSimpArgs false
open Go Go.RowKit
set_option linter.unusedVariables false
set_option linter.unusedSimpArgs false
theorem do_zero {p : PS} {a b c : RS} (h : BR p a b c) (s : List UInt8) (hk0 : kindM s = 0) :
    EE 90 [lent 101 [rsV a, rsV b, rsV c], S s] = some (.t [B false, .t [lent 101 [rsV a, rsV b, rsV c], S s]]) := by
  have ho := h.ok
  refine EE_rows (os := [a, b, c]) (xs := [S s]) T_do rfl (Nat.le_of_ble_eq_true rfl) (in3 ho.ha ho.hb ho.hc) rfl ?_
  intro ds σ k L hR hn hσ hL hk1 hk
  rw [show opt 90 = [] from rfl]
  simp only [bodyOf, Tryd.f90, SA]
  have hkd : EE 114 [S s] = some (.v (.int .u8 0)) := by rw [l7Kind_ev, hk0]; rfl
  simp only [hkd, IA, PA, RA0, RA1, RA2, RA3, RA4, RA5, RA6, RA7, RA8, RA9, RA10, Nat.reduceAdd, Nat.reduceMul, Nat.reduceEqDiff, Nat.reduceLeDiff, Nat.reduceLT, Int.reduceToNat, Int.reduceLT, Int.reduceLE, Int.reduceEq, Int.reduceNeg, Int.reduceAdd, Int.reduceSub, Int.reduceMul, reduceIte]
  refine out_rows_one (x := B false) (ds := ds) (ps := [rsV a, rsV b, rsV c]) (L := L) ?_ (by rfl) (by exact hσ) hR.leaf hn (by rfl)
  simp only [IA, PA, RA0, RA1, RA2, RA3, RA4, RA5, RA6, RA7, RA8, RA9, RA10, Nat.reduceAdd, Nat.reduceMul, Nat.reduceEqDiff, Nat.reduceLeDiff, Nat.reduceLT, Int.reduceToNat, Int.reduceLT, Int.reduceLE, Int.reduceEq, Int.reduceNeg, Int.reduceAdd, Int.reduceSub, Int.reduceMul, reduceIte]
theorem do_beg_no {p : PS} {a b c : RS} (h : BR p a b c) (x v : UInt8) (hx : x = 91 ∨ x = 123) (hv : isLV v = true) (hle : p.st.length ≤ baseP p.lp) (hb9 : baseP p.lp < 1000000000) :
    EE 90 [lent 101 [rsV a, rsV b, rsV c], S [x, v]] = some (.t [B false, .t [lent 101 [rsV a, rsV b, rsV c], S [x, v]]]) := by
  have ho := h.ok
  have hba := h.base
  have han := h.an
  have hcn := h.cn
  refine EE_rows (os := [a, b, c]) (xs := [S [x, v]]) T_do rfl (Nat.le_of_ble_eq_true rfl) (in3 ho.ha ho.hb ho.hc) rfl ?_
  intro ds σ k L hR hn hσ hL hk1 hk
  have hl := hR.leaf
  obtain ⟨da, db, dc, La, Lb, Lc, rfl, rfl, ra, rb, rc⟩ := rw3 hR
  rw [show opt 90 = [] from rfl]
  simp only [bodyOf, Tryd.f90, SA]
  have hkd : EE 114 [S [x, v]] = some (.v (.int .u8 91)) := by rw [l7Kind_ev, kind_beg hx hv]; rfl
  simp only [hkd, hσ, len_rw rc, IA, PA, RA0, RA1, RA2, RA3, RA4, RA5, RA6, RA7, RA8, RA9, RA10, Nat.reduceAdd, Nat.reduceMul, Nat.reduceEqDiff, Nat.reduceLeDiff, Nat.reduceLT, Int.reduceToNat, Int.reduceLT, Int.reduceLE, Int.reduceEq, Int.reduceNeg, Int.reduceAdd, Int.reduceSub, Int.reduceMul, reduceIte]
  rcases hba with ⟨hc0, hb0⟩ | ⟨hc0, pre, hcs, hpl⟩
  · have hlc : ¬ ((0 : Int) < (c.n : Int)) := by omega
    have hla : ((a.n : Int) ≤ 0) := by omega
    simp only [hlc, hla, hσ, len_rw ra, RR, IA, PA, RA0, RA1, RA2, RA3, RA4, RA5, RA6, RA7, RA8, RA9, RA10, Nat.reduceAdd, Nat.reduceMul, Nat.reduceEqDiff, Nat.reduceLeDiff, Nat.reduceLT, Int.reduceToNat, Int.reduceLT, Int.reduceLE, Int.reduceEq, Int.reduceNeg, Int.reduceAdd, Int.reduceSub, Int.reduceMul, reduceIte]
    refine out_rows_one (x := B false) (ds := [da, db, dc]) (ps := [rsV a, rsV b, rsV c]) (L := La ++ (Lb ++ Lc)) ?_ (by rfl) (by exact hσ) hl hn (by rfl)
    simp only [IA, PA, RA0, RA1, RA2, RA3, RA4, RA5, RA6, RA7, RA8, RA9, RA10, Nat.reduceAdd, Nat.reduceMul, Nat.reduceEqDiff, Nat.reduceLeDiff, Nat.reduceLT, Int.reduceToNat, Int.reduceLT, Int.reduceLE, Int.reduceEq, Int.reduceNeg, Int.reduceAdd, Int.reduceSub, Int.reduceMul, reduceIte]
  · have hlc : ((0 : Int) < (c.n : Int)) := by omega
    obtain ⟨rr, hcb', rfl, rfl, hcσ⟩ := rc.pos hc0
    have hwc : IntKind.i64.wrap ((c.n : Int) - 1) = ((c.n - 1 : Nat) : Int) := by
      have := ho.cn
      rw [wrap64 (by omega) (by omega)]; omega
    have hz1 : (0 : Int) ≤ ((c.n - 1 : Nat) : Int) := by omega
    have hz2 : ((c.n - 1 : Nat) : Int) < (c.n : Int) := by omega
    have hhd : (c.cs.drop (c.n - 1)).head? = some (N (baseP p.lp)) := by
      rw [hcs, List.drop_append, List.drop_eq_nil_of_le (by omega), show c.n - 1 - pre.length = 0 by omega]
      rfl
    have hla : ((a.n : Int) ≤ (baseP p.lp : Int)) := by omega
    simp only [hlc, hcσ, hwc, hz1, hz2, hhd, hla, hσ, ho.cS, Int.toNat_natCast, Nat.mul_one, Nat.zero_add, len_rw ra, RR, IA, PA, RA0, RA1, RA2, RA3, RA4, RA5, RA6, RA7, RA8, RA9, RA10, Nat.reduceAdd, Nat.reduceMul, Nat.reduceEqDiff, Nat.reduceLeDiff, Nat.reduceLT, Int.reduceToNat, Int.reduceLT, Int.reduceLE, Int.reduceEq, Int.reduceNeg, Int.reduceAdd, Int.reduceSub, Int.reduceMul, reduceIte]
    refine out_rows_one (x := B false) (ds := [da, db, .w rr 0 c.n]) (ps := [rsV a, rsV b, rsV c]) (L := La ++ (Lb ++ [rr])) ?_ (by rfl) (by exact hσ) hl hn (by rfl)
    simp only [IA, PA, RA0, RA1, RA2, RA3, RA4, RA5, RA6, RA7, RA8, RA9, RA10, Nat.reduceAdd, Nat.reduceMul, Nat.reduceEqDiff, Nat.reduceLeDiff, Nat.reduceLT, Int.reduceToNat, Int.reduceLT, Int.reduceLE, Int.reduceEq, Int.reduceNeg, Int.reduceAdd, Int.reduceSub, Int.reduceMul, reduceIte]
theorem do_end {p : PS} {a b c a' b' c' : RS} (h : BR p a b c) (x : UInt8) (hx : x = 93 ∨ x = 125) (r : Bool) (ha : rsOk a') (hb : rsOk b') (hc : rsOk c')
    (he : EE 117 [lent 101 [rsV a, rsV b, rsV c], U x] = some (.t [B r, .t [lent 101 [rsV a', rsV b', rsV c'], U x]])) :
    EE 90 [lent 101 [rsV a, rsV b, rsV c], S [x]] = some (.t [B r, .t [lent 101 [rsV a', rsV b', rsV c'], S [x]]]) := by
  have ho := h.ok
  refine EE_rows (os := [a, b, c]) (xs := [S [x]]) T_do rfl (Nat.le_of_ble_eq_true rfl) (in3 ho.ha ho.hb ho.hc) rfl ?_
  intro ds σ k L hR hn hσ hL hk1 hk
  rw [show opt 90 = [] from rfl]
  simp only [bodyOf, Tryd.f90, SA]
  have hkd : EE 114 [S [x]] = some (.v (.int .u8 93)) := by rw [l7Kind_ev, kind_end hx]; rfl
  have hok := in3 ha hb hc
  simp only [hkd, IA, PA, RA0, RA1, RA2, RA3, RA4, RA5, RA6, RA7, RA8, RA9, RA10, Nat.reduceAdd, Nat.reduceMul, Nat.reduceEqDiff, Nat.reduceLeDiff, Nat.reduceLT, Int.reduceToNat, Int.reduceLT, Int.reduceLE, Int.reduceEq, Int.reduceNeg, Int.reduceAdd, Int.reduceSub, Int.reduceMul, reduceIte]
  rw [call_ob_eq (os' := [a', b', c']) (by rfl) hσ hR.leaf hn (by rfl) (by exact he) hok (by rfl) (Nat.le_of_ble_eq_true rfl)]
  generalize hτ : aftS _ _ _ _ _ _ = τ
  obtain ⟨ds1, L1, f1, f2, f3, f4, f5⟩ := aft_of hτ hok (by omega)
  clear hτ
  simp only [f1, IA, PA, RA0, RA1, RA2, RA3, RA4, RA5, RA6, RA7, RA8, RA9, RA10, Nat.reduceAdd, Nat.reduceMul, Nat.reduceEqDiff, Nat.reduceLeDiff, Nat.reduceLT, Int.reduceToNat, Int.reduceLT, Int.reduceLE, Int.reduceEq, Int.reduceNeg, Int.reduceAdd, Int.reduceSub, Int.reduceMul, reduceIte]
  refine out_rows_one (x := B r) (ds := ds1) (ps := [rsV a', rsV b', rsV c']) (L := L1) ?_ (by rfl) (by exact f1) f2.leaf f3 (by rfl)
  simp only [IA, PA, RA0, RA1, RA2, RA3, RA4, RA5, RA6, RA7, RA8, RA9, RA10, Nat.reduceAdd, Nat.reduceMul, Nat.reduceEqDiff, Nat.reduceLeDiff, Nat.reduceLT, Int.reduceToNat, Int.reduceLT, Int.reduceLE, Int.reduceEq, Int.reduceNeg, Int.reduceAdd, Int.reduceSub, Int.reduceMul, reduceIte]
/-- What is told of an instruction done. -/
def Done (p : PS) (a b c : RS) (s : List UInt8) : Prop :=
  ∃ r a' b' c', rsOk a' ∧ rsOk b' ∧ rsOk c' ∧ EE 90 [lent 101 [rsV a, rsV b, rsV c], S s] = some (.t [B r, .t [lent 101 [rsV a', rsV b', rsV c'], S s]]) ∧
    match doP s p with
    | some p' => r = true ∧ BR p' a' b' c'
    | none => r = false
theorem BR.begun {p : PS} {a b c : RS} (h : BR p a b c) (x v : UInt8) (hb : p.st.length < 1000000000) (hl : p.lp.length + 1 < 1000000000) : BR ⟨p.st, (x, v, p.st.length) :: p.lp⟩ a (begR b 9 (S [x, v])) (begR c 3 (N p.st.length)) := by
  have ho := h.ok
  have hb1 := h.bn
  have hc1 := h.cn
  refine ⟨⟨ho.ha, begR_ok ho.hb ho.bS rfl, begR_ok ho.hc ho.cS rfl, ho.aE, ho.aS, rfl, rfl, rfl, rfl, ho.an, ?_, ?_⟩, h.an, h.ac, ?_, ?_, ?_, ?_⟩
  · simp only [begR]; omega
  · simp only [begR]; omega
  · simp only [begR, List.length_cons]; omega
  · simp only [begR, h.bc, List.reverse_cons, List.map_append, List.map_cons, List.map_nil]
  · simp only [begR, List.length_cons]; omega
  · simp only [begR, h.cc, List.reverse_cons, List.map_append, List.map_cons, List.map_nil]
theorem do_br {p : PS} {a b c : RS} (h : BR p a b c) (hi : InvP p) (s : List UInt8) (hb : p.st.length + 1 < 1000000000) (hl : p.lp.length + 1 < 1000000000) : Done p a b c s := by
  have ho := h.ok
  have hb9 : baseP p.lp < 1000000000 := by have := hi.hb; omega
  unfold Done
  rcases s with _ | ⟨x, _ | ⟨v, _ | ⟨d, s⟩⟩⟩
  · exact ⟨false, a, b, c, ho.ha, ho.hb, ho.hc, do_zero h _ rfl, rfl⟩
  · by_cases hd : isDig x = true
    · have e : leafI x = .dig x := by simp [leafI, hd]
      refine ⟨true, _, b, c, pushR_ok ho.ha ho.aS (encN_len _) (encN_closed _), ho.hb, ho.hc, do_a h x (.inl hd), ?_⟩
      simp only [doP, hd, if_true]
      rw [e]
      exact ⟨by first | rfl | trivial, h.pushed (.dig x) hb⟩
    by_cases hv : isVar x = true
    · have e : leafI x = .var x := by simp [leafI, hd]
      refine ⟨true, _, b, c, pushR_ok ho.ha ho.aS (encN_len _) (encN_closed _), ho.hb, ho.hc, do_a h x (.inr hv), ?_⟩
      simp only [doP, hd, hv, if_true, Bool.false_eq_true, if_false]
      rw [e]
      exact ⟨by first | rfl | trivial, h.pushed (.var x) hb⟩
    by_cases h1 : isOne x = true
    · simp only [doP, hd, hv, h1, if_true, Bool.false_eq_true, if_false]
      cases hp : popP p.st (baseP p.lp) with
      | none => exact ⟨false, _, b, c, pushR_ok ho.ha ho.aS rfl rfl, ho.hb, ho.hc, do_S_no h x h1 hb9 hp, rfl⟩
      | some q =>
        obtain ⟨y, r⟩ := q
        obtain ⟨hs, hle⟩ := popP_some hp
        have h2 := h.popped hs
        have hr : r.length + 1 < 1000000000 := by rw [hs] at hb; simp only [List.length_cons] at hb; omega
        have h3 := h2.pushed (.one x y) hr
        exact ⟨true, _, b, c, h3.ok.ha, ho.hb, ho.hc, do_S h x h1 hp, by first | rfl | trivial, h3⟩
    by_cases h2 : isTwo x = true
    · simp only [doP, hd, hv, h1, h2, if_true, Bool.false_eq_true, if_false]
      cases hp : popP p.st (baseP p.lp) with
      | none => exact ⟨false, _, b, c, pushR_ok ho.ha ho.aS rfl rfl, ho.hb, ho.hc, do_2_no h x h2 hb9 hp, rfl⟩
      | some q =>
        obtain ⟨y, r⟩ := q
        obtain ⟨hs, hle⟩ := popP_some hp
        have h3 := h.popped hs
        cases hq : popP r (baseP p.lp) with
        | none =>
          simp only [hq]
          exact ⟨false, _, b, c, pushR_ok h3.ok.ha h3.ok.aS rfl (by simp only [closed, closedL, zeroN, closedL_append, encN_closed, Bool.and_self]), ho.hb, ho.hc, do_2_no2 h x h2 hb9 hp hq, rfl⟩
        | some q =>
          obtain ⟨z, r2⟩ := q
          obtain ⟨hs2, hle2⟩ := popP_some hq
          have h4 := h3.popped hs2
          have hr : r2.length + 1 < 1000000000 := by rw [hs, hs2] at hb; simp only [List.length_cons] at hb; omega
          have h5 := h4.pushed (.two x z y) hr
          simp only [hq]
          exact ⟨true, _, b, c, h5.ok.ha, ho.hb, ho.hc, do_2 h x h2 hp hq, by first | rfl | trivial, h5⟩
    by_cases h3 : x = 93 ∨ x = 125
    · simp only [doP, hd, hv, h1, h2, h3, if_true, Bool.false_eq_true, if_false, endP]
      cases hlp : p.lp with
      | nil => exact ⟨false, a, b, c, ho.ha, ho.hb, ho.hc, do_end h x h3 false ho.ha ho.hb ho.hc (end_none h x hlp), rfl⟩
      | cons q l =>
        obtain ⟨s, v, n⟩ := q
        have hil := hi.hl
        have hib := hi.hb
        rw [hlp] at hil hib
        have hib' : n ≤ p.st.length := hib
        obtain ⟨hil1, hil2, hil3⟩ := hil
        have hn9 : n < 1000000000 := by omega
        simp only
        by_cases hs : s + 2 = x
        · by_cases hlen : p.st.length = n + 1
          · rw [if_pos ⟨hs, hlen⟩]
            cases hst : p.st with
            | nil => rw [hst] at hlen; simp at hlen
            | cons y r =>
              rw [hst] at hlen
              simp only [List.length_cons] at hlen
              rw [popP_mk (by omega)]
              simp only
              cases r with
              | nil => simp only [List.length_nil] at hlen; omega
              | cons z r2 =>
                simp only [List.length_cons] at hlen
                have hq : popP p.st n = some (y, z :: r2) := by rw [hst, popP_mk (by simp only [List.length_cons]; omega)]
                have hq2 : popP (z :: r2) (baseP l) = some (z, r2) := popP_mk (by omega)
                rw [hq2]
                have hq' : popP p.st (baseP p.lp) = some (y, z :: r2) := by rw [hlp]; exact hq
                have h4 := ((h.popped hst).ended (s := s) (v := v) (n := n) (l := l) hlp)
                have h5 := (h4.popped (x := z) (r := r2) rfl).pushed (.loop s v z y) (by rw [hst] at hb; simp only [List.length_cons] at hb; simp only; omega)
                exact ⟨true, _, _, _, h5.ok.ha, h5.ok.hb, h5.ok.hc, do_end h x h3 true h5.ok.ha h5.ok.hb h5.ok.hc (end_ok h x hlp hs hn9 (by rw [hst]; simp only [List.length_cons]; omega) hq hq2), by first | rfl | trivial, h5⟩
          · rw [if_neg (by intro hh; exact hlen hh.2)]
            exact ⟨false, a, b, c, ho.ha, ho.hb, ho.hc, do_end h x h3 false ho.ha ho.hb ho.hc (end_len h x hlp hs hn9 hlen), rfl⟩
        · rw [if_neg (by intro hh; exact hs hh.1)]
          exact ⟨false, a, b, c, ho.ha, ho.hb, ho.hc, do_end h x h3 false ho.ha ho.hb ho.hc (end_sign h x hlp hs), rfl⟩
    · simp only [doP, hd, hv, h1, h2, h3, if_true, Bool.false_eq_true, if_false]
      refine ⟨false, a, b, c, ho.ha, ho.hb, ho.hc, do_zero h _ ?_, rfl⟩
      simp only [not_or] at h3
      simp [kindM, hd, hv, h1, h2, h3]
  · by_cases hx : (x = 91 ∨ x = 123) ∧ isLV v = true
    · simp only [doP]
      rw [if_pos hx]
      by_cases hlt : baseP p.lp < p.st.length
      · rw [if_pos hlt]
        have h2 := h.begun x v (by omega) hl
        exact ⟨true, _, _, _, h2.ok.ha, h2.ok.hb, h2.ok.hc, do_beg h x v hx.1 hx.2 hlt, by first | rfl | trivial, h2⟩
      · rw [if_neg hlt]
        exact ⟨false, a, b, c, ho.ha, ho.hb, ho.hc, do_beg_no h x v hx.1 hx.2 (by omega) hb9, rfl⟩
    · simp only [doP]
      rw [if_neg hx]
      refine ⟨false, a, b, c, ho.ha, ho.hb, ho.hc, do_zero h _ ?_, rfl⟩
      simp only [kindM]
      rw [if_neg]
      simpa using hx
  · exact ⟨false, a, b, c, ho.ha, ho.hb, ho.hc, do_zero h _ rfl, rfl⟩
end
end Go.Proofs.YtegbkihgnofkfaaDoor.Ev
