/-
Texts Uk to Ul of the work.
-/
import Derived.Test.YtegbkihgnofkfaaGreatDoorZUi
import Derived.Test.YtegbkihgnofkfaaGreatDoorZVc
/-
Code: what the reference's builder does at any instruction.
-/
namespace Go.Proofs.YtegbkihgnofkfaaGreatDoor.Ev
section
set_option linter.unusedVariables false
set_option linter.unusedSimpArgs false
open Go Go.RowKit
set_option linter.unusedVariables false
set_option linter.unusedSimpArgs false
theorem do_zero {p : PS} {a b c : RS} (h : BR p a b c) (s : List UInt8) (hk0 : kindM s = 0) :
    EE 87 [lent 118 [rsV a, rsV b, rsV c], S s] = some (.t [B false, .t [lent 118 [rsV a, rsV b, rsV c], S s]]) := by
  have ho := h.ok
  refine EE_rows (os := [a, b, c]) (xs := [S s]) T_do rfl (Nat.le_of_ble_eq_true rfl) (in3 ho.ha ho.hb ho.hc) rfl ?_
  intro ds σ k L hR hn hσ hL hk1 hk
  rw [show opt 87 = [] from rfl]
  simp only [bodyOf, Tryz.f87, SA]
  have hkd : EE 12 [S s] = some (.v (.int .u8 0)) := by rw [l7Kind_ev, hk0]; rfl
  simp only [hkd, IA, PA, RA0, RA1, RA2, RA3, RA4, RA5, RA6, RA7, RA8, RA9, RA10, Nat.reduceAdd, Nat.reduceMul, Nat.reduceEqDiff, Nat.reduceLeDiff, Nat.reduceLT, Int.reduceToNat, Int.reduceLT, Int.reduceLE, Int.reduceEq, Int.reduceNeg, Int.reduceAdd, Int.reduceSub, Int.reduceMul, reduceIte]
  refine out_rows_one (x := B false) (ds := ds) (ps := [rsV a, rsV b, rsV c]) (L := L) ?_ (by rfl) (by exact hσ) hR.leaf hn (by rfl)
  simp only [IA, PA, RA0, RA1, RA2, RA3, RA4, RA5, RA6, RA7, RA8, RA9, RA10, Nat.reduceAdd, Nat.reduceMul, Nat.reduceEqDiff, Nat.reduceLeDiff, Nat.reduceLT, Int.reduceToNat, Int.reduceLT, Int.reduceLE, Int.reduceEq, Int.reduceNeg, Int.reduceAdd, Int.reduceSub, Int.reduceMul, reduceIte]
theorem do_beg_no {p : PS} {a b c : RS} (h : BR p a b c) (x v : UInt8) (hx : x = 91 ∨ x = 123) (hv : isLV v = true) (hle : p.st.length ≤ baseP p.lp) (hb9 : baseP p.lp < 1000000000) :
    EE 87 [lent 118 [rsV a, rsV b, rsV c], S [x, v]] = some (.t [B false, .t [lent 118 [rsV a, rsV b, rsV c], S [x, v]]]) := by
  have ho := h.ok
  have hba := h.base
  have han := h.an
  have hcn := h.cn
  refine EE_rows (os := [a, b, c]) (xs := [S [x, v]]) T_do rfl (Nat.le_of_ble_eq_true rfl) (in3 ho.ha ho.hb ho.hc) rfl ?_
  intro ds σ k L hR hn hσ hL hk1 hk
  have hl := hR.leaf
  obtain ⟨da, db, dc, La, Lb, Lc, rfl, rfl, ra, rb, rc⟩ := rw3 hR
  rw [show opt 87 = [] from rfl]
  simp only [bodyOf, Tryz.f87, SA]
  have hkd : EE 12 [S [x, v]] = some (.v (.int .u8 91)) := by rw [l7Kind_ev, kind_beg hx hv]; rfl
  simp only [hkd, hσ, len_rw rc, IA, PA, RA0, RA1, RA2, RA3, RA4, RA5, RA6, RA7, RA8, RA9, RA10, Nat.reduceAdd, Nat.reduceMul, Nat.reduceEqDiff, Nat.reduceLeDiff, Nat.reduceLT, Int.reduceToNat, Int.reduceLT, Int.reduceLE, Int.reduceEq, Int.reduceNeg, Int.reduceAdd, Int.reduceSub, Int.reduceMul, reduceIte]
  rcases hba with ⟨hc0, hb0⟩ | ⟨hc0, pre, hcs, hpl⟩
  · have hlc : ¬ ((0 : Int) < (c.n : Int)) := by omega
    have hla : ((a.n : Int) ≤ 0) := by omega
    simp only [hlc, hla, hσ, len_rw ra, RR, IA, PA, RA0, RA1, RA2, RA3, RA4, RA5, RA6, RA7, RA8, RA9, RA10, Nat.reduceAdd, Nat.reduceMul, Nat.reduceEqDiff, Nat.reduceLeDiff, Nat.reduceLT, Int.reduceToNat, Int.reduceLT, Int.reduceLE, Int.reduceEq, Int.reduceNeg, Int.reduceAdd, Int.reduceSub, Int.reduceMul, reduceIte]
    refine out_rows_one (x := B false) (ds := [da, db, dc]) (ps := [rsV a, rsV b, rsV c]) (L := La ++ (Lb ++ Lc)) ?_ (by rfl) (by exact hσ) hl hn (by rfl)
    simp only [IA, PA, RA0, RA1, RA2, RA3, RA4, RA5, RA6, RA7, RA8, RA9, RA10, Nat.reduceAdd, Nat.reduceMul, Nat.reduceEqDiff, Nat.reduceLeDiff, Nat.reduceLT, Int.reduceToNat, Int.reduceLT, Int.reduceLE, Int.reduceEq, Int.reduceNeg, Int.reduceAdd, Int.reduceSub, Int.reduceMul, reduceIte]
  · have hlc : ((0 : Int) < (c.n : Int)) := by omega
    obtain ⟨rr, hcb', rfl, rfl, hcσ⟩ := rc.pos hc0
    have hwc : IntKind.i64.wrap ((c.n : Int) - 1) = ((c.n - 1 : Nat) : Int) := by
      have := ho.cn
      rw [wrap64 (by omega) (by omega)]; omega
    have hz1 : (0 : Int) ≤ ((c.n - 1 : Nat) : Int) := by omega
    have hz2 : ((c.n - 1 : Nat) : Int) < (c.n : Int) := by omega
    have hhd : (c.cs.drop (c.n - 1)).head? = some (N (baseP p.lp)) := by
      rw [hcs, List.drop_append, List.drop_eq_nil_of_le (by omega), show c.n - 1 - pre.length = 0 by omega]
      rfl
    have hla : ((a.n : Int) ≤ (baseP p.lp : Int)) := by omega
    simp only [hlc, hcσ, hwc, hz1, hz2, hhd, hla, hσ, ho.cS, Int.toNat_natCast, Nat.mul_one, Nat.zero_add, len_rw ra, RR, IA, PA, RA0, RA1, RA2, RA3, RA4, RA5, RA6, RA7, RA8, RA9, RA10, Nat.reduceAdd, Nat.reduceMul, Nat.reduceEqDiff, Nat.reduceLeDiff, Nat.reduceLT, Int.reduceToNat, Int.reduceLT, Int.reduceLE, Int.reduceEq, Int.reduceNeg, Int.reduceAdd, Int.reduceSub, Int.reduceMul, reduceIte]
    refine out_rows_one (x := B false) (ds := [da, db, .w rr 0 c.n]) (ps := [rsV a, rsV b, rsV c]) (L := La ++ (Lb ++ [rr])) ?_ (by rfl) (by exact hσ) hl hn (by rfl)
    simp only [IA, PA, RA0, RA1, RA2, RA3, RA4, RA5, RA6, RA7, RA8, RA9, RA10, Nat.reduceAdd, Nat.reduceMul, Nat.reduceEqDiff, Nat.reduceLeDiff, Nat.reduceLT, Int.reduceToNat, Int.reduceLT, Int.reduceLE, Int.reduceEq, Int.reduceNeg, Int.reduceAdd, Int.reduceSub, Int.reduceMul, reduceIte]
theorem do_end {p : PS} {a b c a' b' c' : RS} (h : BR p a b c) (x : UInt8) (hx : x = 93 ∨ x = 125) (r : Bool) (ha : rsOk a') (hb : rsOk b') (hc : rsOk c')
    (he : EE 103 [lent 118 [rsV a, rsV b, rsV c], U x] = some (.t [B r, .t [lent 118 [rsV a', rsV b', rsV c'], U x]])) :
    EE 87 [lent 118 [rsV a, rsV b, rsV c], S [x]] = some (.t [B r, .t [lent 118 [rsV a', rsV b', rsV c'], S [x]]]) := by
  have ho := h.ok
  refine EE_rows (os := [a, b, c]) (xs := [S [x]]) T_do rfl (Nat.le_of_ble_eq_true rfl) (in3 ho.ha ho.hb ho.hc) rfl ?_
  intro ds σ k L hR hn hσ hL hk1 hk
  rw [show opt 87 = [] from rfl]
  simp only [bodyOf, Tryz.f87, SA]
  have hkd : EE 12 [S [x]] = some (.v (.int .u8 93)) := by rw [l7Kind_ev, kind_end hx]; rfl
  have hok := in3 ha hb hc
  simp only [hkd, IA, PA, RA0, RA1, RA2, RA3, RA4, RA5, RA6, RA7, RA8, RA9, RA10, Nat.reduceAdd, Nat.reduceMul, Nat.reduceEqDiff, Nat.reduceLeDiff, Nat.reduceLT, Int.reduceToNat, Int.reduceLT, Int.reduceLE, Int.reduceEq, Int.reduceNeg, Int.reduceAdd, Int.reduceSub, Int.reduceMul, reduceIte]
  rw [call_ob_eq (os' := [a', b', c']) (by rfl) hσ hR.leaf hn (by rfl) (by exact he) hok (by rfl) (Nat.le_of_ble_eq_true rfl)]
  generalize hτ : aftS _ _ _ _ _ _ = τ
  obtain ⟨ds1, L1, f1, f2, f3, f4, f5⟩ := aft_of hτ hok (by omega)
  clear hτ
  simp only [f1, IA, PA, RA0, RA1, RA2, RA3, RA4, RA5, RA6, RA7, RA8, RA9, RA10, Nat.reduceAdd, Nat.reduceMul, Nat.reduceEqDiff, Nat.reduceLeDiff, Nat.reduceLT, Int.reduceToNat, Int.reduceLT, Int.reduceLE, Int.reduceEq, Int.reduceNeg, Int.reduceAdd, Int.reduceSub, Int.reduceMul, reduceIte]
  refine out_rows_one (x := B r) (ds := ds1) (ps := [rsV a', rsV b', rsV c']) (L := L1) ?_ (by rfl) (by exact f1) f2.leaf f3 (by rfl)
  simp only [IA, PA, RA0, RA1, RA2, RA3, RA4, RA5, RA6, RA7, RA8, RA9, RA10, Nat.reduceAdd, Nat.reduceMul, Nat.reduceEqDiff, Nat.reduceLeDiff, Nat.reduceLT, Int.reduceToNat, Int.reduceLT, Int.reduceLE, Int.reduceEq, Int.reduceNeg, Int.reduceAdd, Int.reduceSub, Int.reduceMul, reduceIte]
/-- What is told of an instruction done. -/
def Done (p : PS) (a b c : RS) (s : List UInt8) : Prop :=
  ∃ r a' b' c', rsOk a' ∧ rsOk b' ∧ rsOk c' ∧ EE 87 [lent 118 [rsV a, rsV b, rsV c], S s] = some (.t [B r, .t [lent 118 [rsV a', rsV b', rsV c'], S s]]) ∧
    match doP s p with
    | some p' => r = true ∧ BR p' a' b' c'
    | none => r = false
theorem BR.begun {p : PS} {a b c : RS} (h : BR p a b c) (x v : UInt8) (hb : p.st.length < 1000000000) (hl : p.lp.length + 1 < 1000000000) : BR ⟨p.st, (x, v, p.st.length) :: p.lp⟩ a (begR b 9 (S [x, v])) (begR c 3 (N p.st.length)) := by
  have ho := h.ok
  have hb1 := h.bn
  have hc1 := h.cn
  refine ⟨⟨ho.ha, begR_ok ho.hb ho.bS rfl, begR_ok ho.hc ho.cS rfl, ho.aE, ho.aS, rfl, rfl, rfl, rfl, ho.an, ?_, ?_⟩, h.an, h.ac, ?_, ?_, ?_, ?_⟩
  · simp only [begR]; omega
  · simp only [begR]; omega
  · simp only [begR, List.length_cons]; omega
  · simp only [begR, h.bc, List.reverse_cons, List.map_append, List.map_cons, List.map_nil]
  · simp only [begR, List.length_cons]; omega
  · simp only [begR, h.cc, List.reverse_cons, List.map_append, List.map_cons, List.map_nil]
theorem do_br {p : PS} {a b c : RS} (h : BR p a b c) (hi : InvP p) (s : List UInt8) (hb : p.st.length + 1 < 1000000000) (hl : p.lp.length + 1 < 1000000000) : Done p a b c s := by
  have ho := h.ok
  have hb9 : baseP p.lp < 1000000000 := by have := hi.hb; omega
  unfold Done
  rcases s with _ | ⟨x, _ | ⟨v, _ | ⟨d, s⟩⟩⟩
  · exact ⟨false, a, b, c, ho.ha, ho.hb, ho.hc, do_zero h _ rfl, rfl⟩
  · by_cases hd : isDig x = true
    · have e : leafI x = .dig x := by simp [leafI, hd]
      refine ⟨true, _, b, c, pushR_ok ho.ha ho.aS (encN_len _) (encN_closed _), ho.hb, ho.hc, do_a h x (.inl hd), ?_⟩
      simp only [doP, hd, if_true]
      rw [e]
      exact ⟨by first | rfl | trivial, h.pushed (.dig x) hb⟩
    by_cases hv : isVar x = true
    · have e : leafI x = .var x := by simp [leafI, hd]
      refine ⟨true, _, b, c, pushR_ok ho.ha ho.aS (encN_len _) (encN_closed _), ho.hb, ho.hc, do_a h x (.inr hv), ?_⟩
      simp only [doP, hd, hv, if_true, Bool.false_eq_true, if_false]
      rw [e]
      exact ⟨by first | rfl | trivial, h.pushed (.var x) hb⟩
    by_cases h1 : isOne x = true
    · simp only [doP, hd, hv, h1, if_true, Bool.false_eq_true, if_false]
      cases hp : popP p.st (baseP p.lp) with
      | none => exact ⟨false, _, b, c, pushR_ok ho.ha ho.aS rfl rfl, ho.hb, ho.hc, do_S_no h x h1 hb9 hp, rfl⟩
      | some q =>
        obtain ⟨y, r⟩ := q
        obtain ⟨hs, hle⟩ := popP_some hp
        have h2 := h.popped hs
        have hr : r.length + 1 < 1000000000 := by rw [hs] at hb; simp only [List.length_cons] at hb; omega
        have h3 := h2.pushed (.one x y) hr
        exact ⟨true, _, b, c, h3.ok.ha, ho.hb, ho.hc, do_S h x h1 hp, by first | rfl | trivial, h3⟩
    by_cases h2 : isTwo x = true
    · simp only [doP, hd, hv, h1, h2, if_true, Bool.false_eq_true, if_false]
      cases hp : popP p.st (baseP p.lp) with
      | none => exact ⟨false, _, b, c, pushR_ok ho.ha ho.aS rfl rfl, ho.hb, ho.hc, do_2_no h x h2 hb9 hp, rfl⟩
      | some q =>
        obtain ⟨y, r⟩ := q
        obtain ⟨hs, hle⟩ := popP_some hp
        have h3 := h.popped hs
        cases hq : popP r (baseP p.lp) with
        | none =>
          simp only [hq]
          exact ⟨false, _, b, c, pushR_ok h3.ok.ha h3.ok.aS rfl (by simp only [closed, closedL, zeroN, closedL_append, encN_closed, Bool.and_self]), ho.hb, ho.hc, do_2_no2 h x h2 hb9 hp hq, rfl⟩
        | some q =>
          obtain ⟨z, r2⟩ := q
          obtain ⟨hs2, hle2⟩ := popP_some hq
          have h4 := h3.popped hs2
          have hr : r2.length + 1 < 1000000000 := by rw [hs, hs2] at hb; simp only [List.length_cons] at hb; omega
          have h5 := h4.pushed (.two x z y) hr
          simp only [hq]
          exact ⟨true, _, b, c, h5.ok.ha, ho.hb, ho.hc, do_2 h x h2 hp hq, by first | rfl | trivial, h5⟩
    by_cases h3 : x = 93 ∨ x = 125
    · simp only [doP, hd, hv, h1, h2, h3, if_true, Bool.false_eq_true, if_false, endP]
      cases hlp : p.lp with
      | nil => exact ⟨false, a, b, c, ho.ha, ho.hb, ho.hc, do_end h x h3 false ho.ha ho.hb ho.hc (end_none h x hlp), rfl⟩
      | cons q l =>
        obtain ⟨s, v, n⟩ := q
        have hil := hi.hl
        have hib := hi.hb
        rw [hlp] at hil hib
        have hib' : n ≤ p.st.length := hib
        obtain ⟨hil1, hil2, hil3⟩ := hil
        have hn9 : n < 1000000000 := by omega
        simp only
        by_cases hs : s + 2 = x
        · by_cases hlen : p.st.length = n + 1
          · rw [if_pos ⟨hs, hlen⟩]
            cases hst : p.st with
            | nil => rw [hst] at hlen; simp at hlen
            | cons y r =>
              rw [hst] at hlen
              simp only [List.length_cons] at hlen
              rw [popP_mk (by omega)]
              simp only
              cases r with
              | nil => simp only [List.length_nil] at hlen; omega
              | cons z r2 =>
                simp only [List.length_cons] at hlen
                have hq : popP p.st n = some (y, z :: r2) := by rw [hst, popP_mk (by simp only [List.length_cons]; omega)]
                have hq2 : popP (z :: r2) (baseP l) = some (z, r2) := popP_mk (by omega)
                rw [hq2]
                have hq' : popP p.st (baseP p.lp) = some (y, z :: r2) := by rw [hlp]; exact hq
                have h4 := ((h.popped hst).ended (s := s) (v := v) (n := n) (l := l) hlp)
                have h5 := (h4.popped (x := z) (r := r2) rfl).pushed (.loop s v z y) (by rw [hst] at hb; simp only [List.length_cons] at hb; simp only; omega)
                exact ⟨true, _, _, _, h5.ok.ha, h5.ok.hb, h5.ok.hc, do_end h x h3 true h5.ok.ha h5.ok.hb h5.ok.hc (end_ok h x hlp hs hn9 (by rw [hst]; simp only [List.length_cons]; omega) hq hq2), by first | rfl | trivial, h5⟩
          · rw [if_neg (by intro hh; exact hlen hh.2)]
            exact ⟨false, a, b, c, ho.ha, ho.hb, ho.hc, do_end h x h3 false ho.ha ho.hb ho.hc (end_len h x hlp hs hn9 hlen), rfl⟩
        · rw [if_neg (by intro hh; exact hs hh.1)]
          exact ⟨false, a, b, c, ho.ha, ho.hb, ho.hc, do_end h x h3 false ho.ha ho.hb ho.hc (end_sign h x hlp hs), rfl⟩
    · simp only [doP, hd, hv, h1, h2, h3, if_true, Bool.false_eq_true, if_false]
      refine ⟨false, a, b, c, ho.ha, ho.hb, ho.hc, do_zero h _ ?_, rfl⟩
      simp only [not_or] at h3
      simp [kindM, hd, hv, h1, h2, h3]
  · by_cases hx : (x = 91 ∨ x = 123) ∧ isLV v = true
    · simp only [doP]
      rw [if_pos hx]
      by_cases hlt : baseP p.lp < p.st.length
      · rw [if_pos hlt]
        have h2 := h.begun x v (by omega) hl
        exact ⟨true, _, _, _, h2.ok.ha, h2.ok.hb, h2.ok.hc, do_beg h x v hx.1 hx.2 hlt, by first | rfl | trivial, h2⟩
      · rw [if_neg hlt]
        exact ⟨false, a, b, c, ho.ha, ho.hb, ho.hc, do_beg_no h x v hx.1 hx.2 (by omega) hb9, rfl⟩
    · simp only [doP]
      rw [if_neg hx]
      refine ⟨false, a, b, c, ho.ha, ho.hb, ho.hc, do_zero h _ ?_, rfl⟩
      simp only [kindM]
      rw [if_neg]
      simpa using hx
  · exact ⟨false, a, b, c, ho.ha, ho.hb, ho.hc, do_zero h _ rfl, rfl⟩
end
end Go.Proofs.YtegbkihgnofkfaaGreatDoor.Ev

/-
Code: the reference's builder over all instructions.
-/
namespace Go.Proofs.YtegbkihgnofkfaaGreatDoor.Ev
section
set_option linter.unusedVariables false
set_option linter.unusedSimpArgs false
open Go Go.RowKit
set_option linter.unusedVariables false
set_option linter.unusedSimpArgs false
def own : AV → List Nat
  | .w id _ _ => [id]
  | _ => []
theorem own_other {σ : Sto} {key E sz n : Nat} {v : AV} {cs : List AV} {i : Nat} (h1 : i ≠ key) (h2 : i ∉ own v) : appSto σ key E sz v n cs i = σ i := by
  refine appSto_other h1 fun id lo k hd he => ?_
  subst hd
  exact h2 (by simp [own, he])
theorem lst_frame {σ τ : Sto} {nx nx' E sz n : Nat} {v : AV} {cs : List AV} (h : Lst σ nx E sz v n cs) (hs : ∀ i ∈ own v, τ i = σ i) (hn : nx ≤ nx') : Lst τ nx' E sz v n cs := by
  rcases h with h | ⟨id, h1, rfl, h2, h3⟩
  · exact .inl h
  · exact .inr ⟨id, by omega, rfl, by rw [hs id (by simp [own]), h2], h3⟩
theorem lst_own {σ : Sto} {nx E sz n : Nat} {v : AV} {cs : List AV} (h : Lst σ nx E sz v n cs) : ∀ i ∈ own v, i < nx := by
  intro i hi
  rcases h with ⟨rfl, h⟩ | ⟨id, h1, rfl, h2, h3⟩
  · simp [own] at hi
  · simp only [own, List.mem_singleton] at hi
    omega
def nats (l : List Nat) : List AV := l.map fun (n : Nat) => N (n : Int)
theorem nats_len (l : List Nat) : (nats l).length = l.length := by simp [nats]
/-- What stands before a round of the loop: e 6: the builder, e 7: heights, e 8: levels, e 23: the instructions. -/
structure BLp (k2 kb kL : Nat) (L : List (List UInt8)) (i : Nat) (hs ls : List Nat) (p : PS) (a b c : RS) (ds : List AV) (Ls : List Nat) (e : Nat → AV) (σ : Sto) (nx : Nat) : Prop where
  br : BR p a b c
  inv : InvP p
  e6 : e 6 = .r kb 0
  sb : σ kb = some (.ob 118 ds)
  rw : RwL σ [a, b, c] ds Ls
  nd : (kb :: Ls).Nodup
  kbn : kb < nx
  Lsn : ∀ r ∈ Ls, r < nx
  e23 : e 23 = .w kL 0 L.length
  sL : σ kL = some (.row 9 1 L.length (strs L))
  kLn : kL < nx
  kL1 : kL ≠ kb
  kL2 : kL ∉ Ls
  e24 : e 24 = N L.length
  e25 : e 25 = N i
  h7 : Lst σ nx 3 1 (e 7) hs.length (nats hs)
  h8 : Lst σ nx 3 1 (e 8) ls.length (nats ls)
  o7 : ∀ j ∈ own (e 7), j ≠ kb ∧ j ∉ Ls ∧ j ≠ kL ∧ j ≠ k2 ∧ j ∉ own (e 8)
  o8 : ∀ j ∈ own (e 8), j ≠ kb ∧ j ∉ Ls ∧ j ≠ kL ∧ j ≠ k2
  e2 : e 2 = .r k2 0
  s2 : σ k2 = some (.ob 66 zeroN)
  k2n : k2 < nx
  k21 : k2 ≠ kb
  k22 : k2 ∉ Ls
  k23 : k2 ≠ kL
theorem l7Build_loop (k2 kb kL : Nat) (L : List (List UInt8)) (hL : L.length < 100000000) : ∀ (r : List (List UInt8)) (i n : Nat) (hs ls : List Nat) (p : PS) (a b c : RS) (ds : List AV) (Ls : List Nat) (e : Nat → AV) (σ : Sto) (nx : Nat) (q : Option (Ex × St)),
    L.drop i = r → i ≤ L.length → r.length < n → p.st.length ≤ i → p.lp.length ≤ i → hs.length ≤ i → ls.length ≤ i → BLp k2 kb kL L i hs ls p a b c ds Ls e σ nx →
    roundsE (evC II EE (withOpt [] pf) MX (bodyL Tryz.f61 0)) n ⟨e, σ, nx⟩ = q →
    match runP r p with
    | some (p', hs', ls') => ∃ e' σ' nx' a' b' c' ds' Ls', q = some (.exit 0, ⟨e', σ', nx'⟩) ∧ BLp k2 kb kL L L.length (hs ++ hs') (ls ++ ls') p' a' b' c' ds' Ls' e' σ' nx'
    | none => ∃ e' σ' nx', q = some (.ret, ⟨e', σ', nx'⟩) ∧ e' 2 = .r k2 0 ∧ σ' k2 = some (.ob 66 zeroN) ∧ e' 3 = .s true 0 [] ∧ e' 4 = .s true 0 [] ∧ e' 5 = B false := by
  intro r
  induction r with
  | nil =>
    intro i n hs ls p a b c ds Ls e σ nx q hd hiL hn hp1 hp2 hh1 hh2 hB hq
    have hlen : L.length ≤ i := by simpa using hd
    have hiE : i = L.length := by omega
    subst hiE
    obtain ⟨k, rfl⟩ : ∃ k, n = k + 1 := ⟨n - 1, by omega⟩
    rw [rounds_rd] at hq
    have hc : ¬ ((L.length : Int) < (L.length : Int)) := by omega
    have h24 := hB.e24
    have h25 := hB.e25
    simp only [bodyL, bodyOf, Tryz.f61, SA, loops, List.nil_append, List.append_nil, List.cons_append, List.getD_cons_zero, List.getD_cons_succ] at hq
    simp only [h24, h25, hc, IA, PA, RA0, RA1, RA2, RA3, RA4, RA5, RA6, RA7, RA8, RA9, RA10, Nat.reduceAdd, Nat.reduceMul, Nat.reduceEqDiff, Nat.reduceLeDiff, Nat.reduceLT, Int.reduceToNat, Int.reduceLT, Int.reduceLE, Int.reduceEq, Int.reduceNeg, Int.reduceAdd, Int.reduceSub, Int.reduceMul, reduceIte] at hq
    refine ⟨_, _, _, a, b, c, ds, Ls, hq.symm, ?_⟩
    have h7 := hB.h7
    have h8 := hB.h8
    simp only [List.append_nil]
    exact ⟨hB.br, hB.inv, hB.e6, hB.sb, hB.rw, hB.nd, by have := hB.kbn; omega, fun r hr => by have := hB.Lsn r hr; omega, hB.e23, hB.sL, by have := hB.kLn; omega, hB.kL1, hB.kL2, h24, h25, lst_mono h7 (by omega), lst_mono h8 (by omega), hB.o7, hB.o8, hB.e2, hB.s2, by have := hB.k2n; omega, hB.k21, hB.k22, hB.k23⟩
  | cons x r ih =>
    intro i n hs ls p a b c ds Ls e σ nx q hd hiL hn hp1 hp2 hh1 hh2 hB hq
    obtain ⟨hi, hx, hd'⟩ := strs_drop_head hd
    obtain ⟨k, rfl⟩ : ∃ k, n = k + 1 := ⟨n - 1, by omega⟩
    rw [rounds_rd] at hq
    have hc : ((i : Int) < (L.length : Int)) := by omega
    have hz : (0 : Int) ≤ (i : Int) := by omega
    have hw : IntKind.i64.wrap ((i : Int) + 1) = ((i + 1 : Nat) : Int) := by rw [wrap64 (by omega) (by omega)]; rfl
    have hhd : ((strs L).drop i).head? = some (S x) := by rw [strs_drop, hd]; rfl
    have hdo := do_br hB.br hB.inv x (by omega) (by omega)
    obtain ⟨rr, a', b', c', ha', hb', hc', hE, hres⟩ := hdo
    have h6 := hB.e6
    have h23 := hB.e23
    have h24 := hB.e24
    have h25 := hB.e25
    have hsL := hB.sL
    have hsb := hB.sb
    have hR := hB.rw
    have hleaf := hR.leaf
    have hnd := hB.nd
    obtain ⟨da, db, dc, La, Lb, Lc, rfl, rfl, ra, rb, rc⟩ := rw3 hR
    simp only [bodyL, bodyOf, Tryz.f61, SA, loops, List.nil_append, List.append_nil, List.cons_append, List.getD_cons_zero, List.getD_cons_succ] at hq
    simp only [h6, h23, h24, h25, hsL, hsb, hc, hz, hw, hhd, len_rw rb, Int.toNat_natCast, Nat.mul_one, Nat.zero_add, RR, IA, PA, RA0, RA1, RA2, RA3, RA4, RA5, RA6, RA7, RA8, RA9, RA10, Nat.reduceAdd, Nat.reduceMul, Nat.reduceEqDiff, Nat.reduceLeDiff, Nat.reduceLT, Int.reduceToNat, Int.reduceLT, Int.reduceLE, Int.reduceEq, Int.reduceNeg, Int.reduceAdd, Int.reduceSub, Int.reduceMul, reduceIte] at hq
    have hkbn := hB.kbn
    have hok := in3 ha' hb' hc'
    rw [call_ob_eq (os' := [a', b', c']) (by rfl) hsb hleaf hnd (by rfl) (by exact hE) hok (by rfl) (Nat.le_of_ble_eq_true rfl)] at hq
    generalize hτ : aftS _ _ _ _ _ _ = τ at hq
    obtain ⟨ds1, L1, f1, f2, f3, f4, f5⟩ := aft_of hτ hok (by omega)
    clear hτ
    simp only [List.length_cons, List.length_nil] at f4 f5
    simp only [runP]
    cases hdp : doP x p with
    | none =>
      rw [hdp] at hres
      simp only at hres
      subst hres
      have h2 := hB.e2
      have hs2 : τ k2 = some (.ob 66 zeroN) := by rw [f5 k2 hB.k21 hB.k22 (.inl (by have := hB.k2n; omega))]; exact hB.s2
      simp only [f1, h2, hs2, zeroN, TMA, RR, IA, PA, RA0, RA1, RA2, RA3, RA4, RA5, RA6, RA7, RA8, RA9, RA10, Nat.reduceAdd, Nat.reduceMul, Nat.reduceEqDiff, Nat.reduceLeDiff, Nat.reduceLT, Int.reduceToNat, Int.reduceLT, Int.reduceLE, Int.reduceEq, Int.reduceNeg, Int.reduceAdd, Int.reduceSub, Int.reduceMul, reduceIte] at hq
      refine ⟨_, _, _, hq.symm, by simpa using h2, ?_, rfl, rfl, rfl⟩
      simp only [upd, if_true]
      rfl
    | some p' =>
      rw [hdp] at hres
      obtain ⟨hrt, hbr⟩ := hres
      subst hrt
      obtain ⟨da1, db1, dc1, La1, Lb1, Lc1, rfl, rfl, ra1, rb1, rc1⟩ := rw3 f2
      have h7 := hB.h7
      have h8 := hB.h8
      have hbn := hB.br.bn
      have hbn1 := hbr.bn
      have han1 := hbr.an
      have h6b := hB.e6
      simp only [f1, h6b, len_rw rb1, RR, IA, PA, RA0, RA1, RA2, RA3, RA4, RA5, RA6, RA7, RA8, RA9, RA10, Nat.reduceAdd, Nat.reduceMul, Nat.reduceEqDiff, Nat.reduceLeDiff, Nat.reduceLT, Int.reduceToNat, Int.reduceLT, Int.reduceLE, Int.reduceEq, Int.reduceNeg, Int.reduceAdd, Int.reduceSub, Int.reduceMul, reduceIte] at hq
      have hmin : (if (b'.n : Int) < (b.n : Int) then (b'.n : Int) else (b.n : Int)) = ((min p.lp.length p'.lp.length : Nat) : Int) := by
        rw [hbn, hbn1]
        split <;> omega
      have hls : ls.length + 1 < 1000000000 := by omega
      have hhs : hs.length + 1 < 1000000000 := by omega
      have hkeep : ∀ j, j ≠ kb → j ∉ La ++ (Lb ++ Lc) → j < nx → τ j = σ j := fun j h1 h2 h3 => f5 j h1 h2 (.inl (by omega))
      have hl8 : Lst τ nx 3 1 (e 8) ls.length (nats ls) := lst_frame h8 (fun j hj => hkeep j (hB.o8 j hj).1 (hB.o8 j hj).2.1 (lst_own h8 j hj)) (Nat.le_refl _)
      have hl7 : Lst τ nx 3 1 (e 7) hs.length (nats hs) := lst_frame h7 (fun j hj => hkeep j (hB.o7 j hj).1 (hB.o7 j hj).2.1 (lst_own h7 j hj)) (Nat.le_refl _)
      rw [hmin, lst_app hl8 (by decide) (by rfl) (by rfl) (by decide) (by omega) (by omega) (by omega)] at hq
      generalize hτ2 : appSto _ _ _ _ (e 8) _ _ = τ2 at hq
      have t1 := (congrFun hτ2 _).symm.trans (appSto_key ..)
      have t2 : ∀ j, j ≠ _ → j ∉ own (e 8) → τ2 j = τ j := fun j h1 h2 => (congrFun hτ2 j).symm.trans (own_other h1 h2)
      clear hτ2
      have hL1o : ∀ j ∈ La1 ++ (Lb1 ++ Lc1), j ∉ own (e 8) := fun j hj h => by have := f4 j hj; have := lst_own h8 j h; omega
      have t3 : τ2 kb = some (.ob 118 [da1, db1, dc1]) := by rw [t2 kb (by omega) (fun h => (hB.o8 kb h).1 rfl), f1]
      have ra2 : Rw τ2 a' da1 La1 := ra1.frame fun r hr => t2 r (by have := f4 r (by simp [hr]); omega) (hL1o r (by simp [hr]))
      have hl72 : Lst τ2 nx 3 1 (e 7) hs.length (nats hs) := lst_frame hl7 (fun j hj => t2 j (by have := lst_own h7 j hj; omega) (hB.o7 j hj).2.2.2.2) (Nat.le_refl _)
      simp only [t3, h6b, len_rw ra2, RR, IA, PA, RA0, RA1, RA2, RA3, RA4, RA5, RA6, RA7, RA8, RA9, RA10, Nat.reduceAdd, Nat.reduceMul, Nat.reduceEqDiff, Nat.reduceLeDiff, Nat.reduceLT, Int.reduceToNat, Int.reduceLT, Int.reduceLE, Int.reduceEq, Int.reduceNeg, Int.reduceAdd, Int.reduceSub, Int.reduceMul, reduceIte] at hq
      rw [lst_app hl72 (by decide) (by rfl) (by rfl) (by decide) (by omega) (by omega) (by omega)] at hq
      generalize hτ3 : appSto _ _ _ _ (e 7) _ _ = τ3 at hq
      have u1 := (congrFun hτ3 _).symm.trans (appSto_key ..)
      have u2 : ∀ j, j ≠ _ → j ∉ own (e 7) → τ3 j = τ2 j := fun j h1 h2 => (congrFun hτ3 j).symm.trans (own_other h1 h2)
      clear hτ3
      simp only [h25, hw, RR, IA, PA, RA0, RA1, RA2, RA3, RA4, RA5, RA6, RA7, RA8, RA9, RA10, Nat.reduceAdd, Nat.reduceMul, Nat.reduceEqDiff, Nat.reduceLeDiff, Nat.reduceLT, Int.reduceToNat, Int.reduceLT, Int.reduceLE, Int.reduceEq, Int.reduceNeg, Int.reduceAdd, Int.reduceSub, Int.reduceMul, reduceIte] at hq
      have hfin : ∀ j, j < nx + 4 + 12 + 24 + 16 → j ∉ own (e 7) → j ∉ own (e 8) → τ3 j = τ j := fun j h1 h2 h3 => by rw [u2 j (by omega) h2, t2 j (by omega) h3]
      have hL1o7 : ∀ j ∈ La1 ++ (Lb1 ++ Lc1), j ∉ own (e 7) := fun j hj h => by have := f4 j hj; have := lst_own h7 j h; omega
      obtain ⟨q1, q2⟩ := doP_len hdp
      have q3 := dH_le x
      have q4 := dL_le x
      have hN1 : ∀ j ∈ own (e 7), j < nx := lst_own h7
      have hN2 : ∀ j ∈ own (e 8), j < nx := lst_own h8
      have hf1 : ∀ j ∈ La1 ++ (Lb1 ++ Lc1), τ3 j = τ j := fun j hj => hfin j (by have := f4 j hj; omega) (hL1o7 j hj) (hL1o j hj)
      have hkL := hB.kLn
      have hk2 := hB.k2n
      have hL1k : ∀ (j : Nat), j < nx → j ∉ La1 ++ (Lb1 ++ Lc1) := fun j hj hm => by have := f4 j hm; omega
      have key := fun hh => ih (i + 1) k (hs ++ [p'.st.length]) (ls ++ [min p.lp.length p'.lp.length]) p' a' b' c' [da1, db1, dc1] (La1 ++ (Lb1 ++ Lc1)) _ τ3 _ q hd' (by omega) (by simpa using hn) (by omega) (by omega) (by simp; omega) (by simp; omega) hh hq
      have := key ⟨hbr, (doP_code hdp hB.inv).1, h6b, ?g1, ?g2, f3, by omega, fun r hr => by have := f4 r hr; omega, h23, ?g3, by omega, hB.kL1, hL1k kL hkL, h24, rfl, ?g4, ?g5, ?g6, ?g7, hB.e2, ?g8, by omega, hB.k21, hL1k k2 hk2, hB.k23⟩
      case g1 => rw [hfin kb (by omega) (fun h => (hB.o7 kb h).1 rfl) (fun h => (hB.o8 kb h).1 rfl), f1]
      case g2 => exact (rw3_mk ra1 rb1 rc1).frame hf1
      case g3 => rw [hfin kL (by omega) (fun h => (hB.o7 kL h).2.2.1 rfl) (fun h => (hB.o8 kL h).2.2.1 rfl), hkeep kL hB.kL1 hB.kL2 hkL, hsL]
      case g8 => rw [hfin k2 (by omega) (fun h => (hB.o7 k2 h).2.2.2.1 rfl) (fun h => (hB.o8 k2 h).2.2.2 rfl), hkeep k2 hB.k21 hB.k22 hk2, hB.s2]
      case g4 =>
        have e7 : nats (hs ++ [p'.st.length]) = nats hs ++ [AV.v (Value.int IntKind.i64 (a'.n : Int))] := by rw [han1]; simp [nats]
        rw [e7]
        simp only [List.length_append, List.length_cons, List.length_nil]
        exact .inr ⟨_, by omega, rfl, u1, by simp [nats]⟩
      case g5 =>
        have e8 : nats (ls ++ [min p.lp.length p'.lp.length]) = nats ls ++ [AV.v (Value.int IntKind.i64 ((min p.lp.length p'.lp.length : Nat) : Int))] := by simp [nats]
        rw [e8]
        simp only [List.length_append, List.length_cons, List.length_nil]
        refine .inr ⟨_, by omega, rfl, ?_, by simp [nats]⟩
        rw [u2 _ (by omega) (fun h => by have := hN1 _ h; omega), t1]
      case g6 =>
        intro j hj
        have hj : j ∈ [nx + 4 + 12 + 24 + 16 + 44 + 28] := hj
        simp only [List.mem_singleton] at hj
        subst hj
        refine ⟨by omega, fun h => by have := f4 _ h; omega, by omega, by omega, ?_⟩
        show _ ∉ [nx + 4 + 12 + 24 + 16 + 36]
        simp
      case g7 =>
        intro j hj
        have hj : j ∈ [nx + 4 + 12 + 24 + 16 + 36] := hj
        simp only [List.mem_singleton] at hj
        subst hj
        exact ⟨by omega, fun h => by have := f4 _ h; omega, by omega, by omega⟩
      cases hrp : runP r p' with
      | none =>
        rw [hrp] at this
        simp only [hrp]
        exact this
      | some w =>
        obtain ⟨p2, hs2, ls2⟩ := w
        rw [hrp] at this
        simp only [hrp]
        simpa only [List.append_assoc, List.cons_append, List.nil_append] using this
end
end Go.Proofs.YtegbkihgnofkfaaGreatDoor.Ev
