/-
Texts Uj to Vm of the work, in one.
-/
import Derived.Test.YtkmnidbodlmaaaaDoorZ5
/-
Code: the reference's builder at the end of a loop.
-/
namespace Go.Proofs.YtkmnidbodlmaaaaDoor.Ev
section
set_option linter.unusedVariables false
set_option linter.unusedSimpArgs false
open Go Go.RowKit
set_option linter.unusedVariables false
set_option linter.unusedSimpArgs false
theorem wrap_u8_two (c : UInt8) : IntKind.u8.wrap ((c.toNat : Int) + 2) = ((c + 2).toNat : Int) := by
  have h : (c + 2).toNat = (c.toNat + 2) % 256 := UInt8.toNat_add c 2
  rw [h]
  unfold IntKind.wrap
  simp [IntKind.bits, IntKind.signed]
theorem end_none {p : PS} {a b c : RS} (h : BR p a b c) (x : UInt8) (hp : p.lp = []) :
    EE 100 [lent 75 [rsV a, rsV b, rsV c], U x] = some (.t [B false, .t [lent 75 [rsV a, rsV b, rsV c], U x]]) := by
  have ho := h.ok
  have hbn := h.bn
  rw [hp] at hbn
  refine EE_rows (os := [a, b, c]) (xs := [U x]) T_end rfl (Nat.le_of_ble_eq_true rfl) (in3 ho.ha ho.hb ho.hc) rfl ?_
  intro ds σ k L hR hn hσ hL hk1 hk
  have hl := hR.leaf
  obtain ⟨da, db, dc, La, Lb, Lc, rfl, rfl, ra, rb, rc⟩ := rw3 hR
  rw [show opt 100 = [] from rfl]
  simp only [bodyOf, Tryd.f100, SA]
  simp only [hσ, len_rw rb, hbn, List.length_nil, IA, PA, RA0, RA1, RA2, RA3, RA4, RA5, RA6, RA7, RA8, RA9, RA10, Nat.reduceAdd, Nat.reduceMul, Nat.reduceEqDiff, Nat.reduceLeDiff, Nat.reduceLT, Int.reduceToNat, Int.reduceLT, Int.reduceLE, Int.reduceEq, Int.reduceNeg, Int.reduceAdd, Int.reduceSub, Int.reduceMul, reduceIte]
  refine out_rows_one (x := B false) (ds := [da, db, dc]) (ps := [rsV a, rsV b, rsV c]) (L := La ++ (Lb ++ Lc)) ?_ (by rfl) (by exact hσ) hl hn (by rfl)
  simp only [IA, PA, RA0, RA1, RA2, RA3, RA4, RA5, RA6, RA7, RA8, RA9, RA10, Nat.reduceAdd, Nat.reduceMul, Nat.reduceEqDiff, Nat.reduceLeDiff, Nat.reduceLT, Int.reduceToNat, Int.reduceLT, Int.reduceLE, Int.reduceEq, Int.reduceNeg, Int.reduceAdd, Int.reduceSub, Int.reduceMul, reduceIte]
theorem BR.lps {p : PS} {a b c : RS} (h : BR p a b c) {s v : UInt8} {n : Nat} {l : List (UInt8 × UInt8 × Nat)} (hp : p.lp = (s, v, n) :: l) :
    b.n = l.length + 1 ∧ c.n = l.length + 1 ∧ b.cs = (l.reverse.map fun q => S [q.1, q.2.1]) ++ [S [s, v]] ∧ c.cs = (l.reverse.map fun q => N (q.2.2 : Int)) ++ [N n] := by
  obtain ⟨st, lp⟩ := p
  simp only at hp
  subst hp
  refine ⟨h.bn, h.cn, ?_, ?_⟩
  · rw [h.bc]; simp
  · rw [h.cc]; simp
theorem end_sign {p : PS} {a b c : RS} (h : BR p a b c) (x : UInt8) {s v : UInt8} {n : Nat} {l : List (UInt8 × UInt8 × Nat)} (hp : p.lp = (s, v, n) :: l) (hs : s + 2 ≠ x) :
    EE 100 [lent 75 [rsV a, rsV b, rsV c], U x] = some (.t [B false, .t [lent 75 [rsV a, rsV b, rsV c], U x]]) := by
  have ho := h.ok
  obtain ⟨hbn, hcn, hbc, hcc⟩ := h.lps hp
  refine EE_rows (os := [a, b, c]) (xs := [U x]) T_end rfl (Nat.le_of_ble_eq_true rfl) (in3 ho.ha ho.hb ho.hc) rfl ?_
  intro ds σ k L hR hn hσ hL hk1 hk
  have hl := hR.leaf
  obtain ⟨da, db, dc, La, Lb, Lc, rfl, rfl, ra, rb, rc⟩ := rw3 hR
  obtain ⟨ri, hb', rfl, rfl, hbσ⟩ := rb.pos (by omega)
  rw [show opt 100 = [] from rfl]
  simp only [bodyOf, Tryd.f100, SA]
  have hbz : ¬ ((b.n : Int) = 0) := by omega
  have hwb : IntKind.i64.wrap ((b.n : Int) - 1) = ((b.n - 1 : Nat) : Int) := by
    have := ho.bn
    rw [wrap64 (by omega) (by omega)]; omega
  have hz1 : (0 : Int) ≤ ((b.n - 1 : Nat) : Int) := by omega
  have hz2 : ((b.n - 1 : Nat) : Int) < (b.n : Int) := by omega
  have hhd : (b.cs.drop (b.n - 1)).head? = some (S [s, v]) := by
    rw [hbc, List.drop_append, List.drop_eq_nil_of_le (by simp; omega), show b.n - 1 - (l.reverse.map fun q => S [q.1, q.2.1]).length = 0 by simp; omega]
    rfl
  have hne : decide (((s + 2).toNat : Int) = (x.toNat : Int)) = false := by
    simp only [decide_eq_false_iff_not]
    intro e
    exact hs (UInt8.toNat_inj.1 (by omega))
  simp only [hσ, hbσ, hbz, hwb, hz1, hz2, hhd, ho.bS, wrap_u8_two, hne, Int.toNat_natCast, Nat.mul_one, Nat.zero_add, IA, PA, RA0, RA1, RA2, RA3, RA4, RA5, RA6, RA7, RA8, RA9, RA10, Nat.reduceAdd, Nat.reduceMul, Nat.reduceEqDiff, Nat.reduceLeDiff, Nat.reduceLT, Int.reduceToNat, Int.reduceLT, Int.reduceLE, Int.reduceEq, Int.reduceNeg, Int.reduceAdd, Int.reduceSub, Int.reduceMul, reduceIte]
  refine out_rows_one (x := B false) (ds := [da, .w ri 0 b.n, dc]) (ps := [rsV a, rsV b, rsV c]) (L := La ++ ([ri] ++ Lc)) ?_ (by rfl) (by exact hσ) hl hn (by rfl)
  simp only [IA, PA, RA0, RA1, RA2, RA3, RA4, RA5, RA6, RA7, RA8, RA9, RA10, Nat.reduceAdd, Nat.reduceMul, Nat.reduceEqDiff, Nat.reduceLeDiff, Nat.reduceLT, Int.reduceToNat, Int.reduceLT, Int.reduceLE, Int.reduceEq, Int.reduceNeg, Int.reduceAdd, Int.reduceSub, Int.reduceMul, reduceIte]
theorem end_len {p : PS} {a b c : RS} (h : BR p a b c) (x : UInt8) {s v : UInt8} {n : Nat} {l : List (UInt8 × UInt8 × Nat)} (hp : p.lp = (s, v, n) :: l) (hs : s + 2 = x) (hnb : n < 1000000000) (hlen : p.st.length ≠ n + 1) :
    EE 100 [lent 75 [rsV a, rsV b, rsV c], U x] = some (.t [B false, .t [lent 75 [rsV a, rsV b, rsV c], U x]]) := by
  have ho := h.ok
  have han := h.an
  obtain ⟨hbn, hcn, hbc, hcc⟩ := h.lps hp
  subst hs
  refine EE_rows (os := [a, b, c]) (xs := [U (s + 2)]) T_end rfl (Nat.le_of_ble_eq_true rfl) (in3 ho.ha ho.hb ho.hc) rfl ?_
  intro ds σ k L hR hn hσ hL hk1 hk
  have hl := hR.leaf
  obtain ⟨da, db, dc, La, Lb, Lc, rfl, rfl, ra, rb, rc⟩ := rw3 hR
  obtain ⟨ri, hb', rfl, rfl, hbσ⟩ := rb.pos (by omega)
  obtain ⟨rj, hc', rfl, rfl, hcσ⟩ := rc.pos (by omega)
  rw [show opt 100 = [] from rfl]
  simp only [bodyOf, Tryd.f100, SA]
  have hbz : ¬ ((b.n : Int) = 0) := by omega
  have hwb : IntKind.i64.wrap ((b.n : Int) - 1) = ((b.n - 1 : Nat) : Int) := by
    have := ho.bn
    rw [wrap64 (by omega) (by omega)]; omega
  have hz1 : (0 : Int) ≤ ((b.n - 1 : Nat) : Int) := by omega
  have hz2 : ((b.n - 1 : Nat) : Int) < (b.n : Int) := by omega
  have hbp : (l.reverse.map fun q => S [q.1, q.2.1]).length = b.n - 1 := by simp; omega
  have hcp : (l.reverse.map fun q => N (q.2.2 : Int)).length = c.n - 1 := by simp; omega
  have hhd : (b.cs.drop (b.n - 1)).head? = some (S [s, v]) := by
    rw [hbc, List.drop_append, List.drop_eq_nil_of_le (by omega), show b.n - 1 - (l.reverse.map fun q => S [q.1, q.2.1]).length = 0 by omega]
    rfl
  have hne : decide (((s + 2).toNat : Int) = ((s + 2).toNat : Int)) = true := by simp
  have hwc : IntKind.i64.wrap ((c.n : Int) - 1) = ((c.n - 1 : Nat) : Int) := by
    have := ho.cn
    rw [wrap64 (by omega) (by omega)]; omega
  have hy1 : (0 : Int) ≤ ((c.n - 1 : Nat) : Int) := by omega
  have hy2 : ((c.n - 1 : Nat) : Int) < (c.n : Int) := by omega
  have hhc : (c.cs.drop (c.n - 1)).head? = some (N n) := by
    rw [hcc, List.drop_append, List.drop_eq_nil_of_le (by omega), show c.n - 1 - (l.reverse.map fun q => N (q.2.2 : Int)).length = 0 by omega]
    rfl
  have hwn : IntKind.i64.wrap ((n : Int) + 1) = ((n + 1 : Nat) : Int) := by rw [wrap64 (by omega) (by omega)]; omega
  have hsl : decide ((a.n : Int) = ((n + 1 : Nat) : Int)) = false := by simp only [decide_eq_false_iff_not]; omega
  simp only [hσ, hbσ, hcσ, hbz, hwb, hz1, hz2, hhd, hwc, hy1, hy2, hhc, hwn, hsl, ho.bS, ho.cS, len_rw ra, wrap_u8_two, hne, Int.toNat_natCast, Nat.mul_one, Nat.zero_add, IA, PA, RA0, RA1, RA2, RA3, RA4, RA5, RA6, RA7, RA8, RA9, RA10, Nat.reduceAdd, Nat.reduceMul, Nat.reduceEqDiff, Nat.reduceLeDiff, Nat.reduceLT, Int.reduceToNat, Int.reduceLT, Int.reduceLE, Int.reduceEq, Int.reduceNeg, Int.reduceAdd, Int.reduceSub, Int.reduceMul, reduceIte]
  refine out_rows_one (x := B false) (ds := [da, .w ri 0 b.n, .w rj 0 c.n]) (ps := [rsV a, rsV b, rsV c]) (L := La ++ ([ri] ++ [rj])) ?_ (by rfl) (by exact hσ) hl hn (by rfl)
  simp only [IA, PA, RA0, RA1, RA2, RA3, RA4, RA5, RA6, RA7, RA8, RA9, RA10, Nat.reduceAdd, Nat.reduceMul, Nat.reduceEqDiff, Nat.reduceLeDiff, Nat.reduceLT, Int.reduceToNat, Int.reduceLT, Int.reduceLE, Int.reduceEq, Int.reduceNeg, Int.reduceAdd, Int.reduceSub, Int.reduceMul, reduceIte]
def cutR (b : RS) : RS := { b with n := b.n - 1, cs := b.cs.take ((b.n - 1) * b.sz) }
theorem BR.ended {p : PS} {a b c : RS} (h : BR p a b c) {s v : UInt8} {n : Nat} {l : List (UInt8 × UInt8 × Nat)} (hp : p.lp = (s, v, n) :: l) : BR ⟨p.st, l⟩ a (cutR b) (cutR c) := by
  have ho := h.ok
  obtain ⟨hbn, hcn, hbc, hcc⟩ := h.lps hp
  have hbp : (l.reverse.map fun q => S [q.1, q.2.1]).length = b.n - 1 := by simp; omega
  have hcp : (l.reverse.map fun q => N (q.2.2 : Int)).length = c.n - 1 := by simp; omega
  have eb : b.cs.take ((b.n - 1) * b.sz) = l.reverse.map fun q => S [q.1, q.2.1] := by rw [hbc, ho.bS, Nat.mul_one, List.take_append_of_le_length (by omega), List.take_of_length_le (by omega)]
  have ec : c.cs.take ((c.n - 1) * c.sz) = l.reverse.map fun q => N (q.2.2 : Int) := by rw [hcc, ho.cS, Nat.mul_one, List.take_append_of_le_length (by omega), List.take_of_length_le (by omega)]
  have hbb : b.b = true := by
    cases hb : b.b
    · have := (ho.hb.2.2 hb).1; omega
    · rfl
  have hcb : c.b = true := by
    cases hb : c.b
    · have := (ho.hc.2.2 hb).1; omega
    · rfl
  have cb := ho.hb.2.1
  have cc := ho.hc.2.1
  rw [hbc, closedL_append, Bool.and_eq_true] at cb
  rw [hcc, closedL_append, Bool.and_eq_true] at cc
  have h1 := ho.bn
  have h2 := ho.cn
  refine ⟨⟨ho.ha, ⟨?_, ?_, ?_⟩, ⟨?_, ?_, ?_⟩, ho.aE, ho.aS, ho.bE, ho.bS, ho.cE, ho.cS, ho.an, ?_, ?_⟩, h.an, h.ac, ?_, eb, ?_, ec⟩
  · show (b.cs.take ((b.n - 1) * b.sz)).length = (b.n - 1) * b.sz
    rw [eb, hbp, ho.bS]; omega
  · simp only [cutR, eb]; exact cb.1
  · simp only [cutR, hbb]; intro hh; cases hh
  · show (c.cs.take ((c.n - 1) * c.sz)).length = (c.n - 1) * c.sz
    rw [ec, hcp, ho.cS]; omega
  · simp only [cutR, ec]; exact cc.1
  · simp only [cutR, hcb]; intro hh; cases hh
  · simp only [cutR]; omega
  · simp only [cutR]; omega
  · simp only [cutR]; omega
  · simp only [cutR]; omega
theorem tk_cut {b : RS} (h : b.n ≠ 0) : tk (b.n - 1) b.n b.sz b.cs = (cutR b).cs := by
  unfold tk cutR
  rw [if_neg (by omega)]
theorem leaf_cut {σ : Sto} {b : RS} {r : Nat} (ho : rsOk b) (hσ : σ r = some (.row b.E b.sz b.n b.cs)) (hn : b.n ≠ 0) (hb : b.b = true) : leafP σ (.w r 0 (b.n - 1)) = some (rsV (cutR b), [r]) := by
  rw [leafP_part hσ ho.2.1 (by omega), tk_cut hn]
  simp only [rsV, cutR, hb, if_true]
theorem end_ok {p : PS} {a b c : RS} (h : BR p a b c) (x : UInt8) {s v : UInt8} {n : Nat} {l : List (UInt8 × UInt8 × Nat)} (hp : p.lp = (s, v, n) :: l) (hs : s + 2 = x) (hnb : n < 1000000000) (hlen : p.st.length = n + 1) {y z : T} {r r2 : List T} (hq : popP p.st n = some (y, r)) (hq2 : popP r (baseP l) = some (z, r2)) :
    EE 100 [lent 75 [rsV a, rsV b, rsV c], U x] = some (.t [B true, .t [lent 75 [rsV (pushR (popR (popR a (r.reverse.flatMap encN)) (r2.reverse.flatMap encN)) (encN (.loop s v z y))), rsV (cutR b), rsV (cutR c)], U x]]) := by
  have ho := h.ok
  have han := h.an
  obtain ⟨hbn, hcn, hbc, hcc⟩ := h.lps hp
  subst hs
  have hq' : popP p.st (baseP p.lp) = some (y, r) := by rw [hp]; exact hq
  have hpo := pop_br h hq'
  obtain ⟨hs1, hle1⟩ := popP_some hq'
  have h1 := h.popped hs1
  have ho1 := h1.ok
  have h2 := h1.ended (s := s) (v := v) (n := n) (l := l) hp
  have ho2 := h2.ok
  have hpo2 := pop_br h2 hq2
  obtain ⟨hs2, hle2⟩ := popP_some hq2
  have h3 := h2.popped hs2
  have ho3 := h3.ok
  have hpu := push_br h3 (.loop s v z y)
  have hok1 := in3 ho1.ha ho1.hb ho1.hc
  have hok3 := in3 ho3.ha ho3.hb ho3.hc
  have hok := in3 (pushR_ok ho3.ha ho3.aS (encN_len (.loop s v z y)) (encN_closed _)) ho3.hb ho3.hc
  refine EE_rows (os := [a, b, c]) (xs := [U (s + 2)]) T_end rfl (Nat.le_of_ble_eq_true rfl) (in3 ho.ha ho.hb ho.hc) rfl ?_
  intro ds σ k L hR hn hσ hL hk1 hk
  have hl := hR.leaf
  obtain ⟨da, db, dc, La, Lb, Lc, rfl, rfl, ra, rb, rc⟩ := rw3 hR
  obtain ⟨ri, hb', rfl, rfl, hbσ⟩ := rb.pos (by omega)
  obtain ⟨rj, hc', rfl, rfl, hcσ⟩ := rc.pos (by omega)
  rw [show opt 100 = [] from rfl]
  simp only [bodyOf, Tryd.f100, SA]
  have hbz : ¬ ((b.n : Int) = 0) := by omega
  have hwb : IntKind.i64.wrap ((b.n : Int) - 1) = ((b.n - 1 : Nat) : Int) := by
    have := ho.bn
    rw [wrap64 (by omega) (by omega)]; omega
  have hz1 : (0 : Int) ≤ ((b.n - 1 : Nat) : Int) := by omega
  have hz2 : ((b.n - 1 : Nat) : Int) < (b.n : Int) := by omega
  have hbp : (l.reverse.map fun q => S [q.1, q.2.1]).length = b.n - 1 := by simp; omega
  have hcp : (l.reverse.map fun q => N (q.2.2 : Int)).length = c.n - 1 := by simp; omega
  have hhd : (b.cs.drop (b.n - 1)).head? = some (S [s, v]) := by
    rw [hbc, List.drop_append, List.drop_eq_nil_of_le (by omega), show b.n - 1 - (l.reverse.map fun q => S [q.1, q.2.1]).length = 0 by omega]
    rfl
  have hne : decide (((s + 2).toNat : Int) = ((s + 2).toNat : Int)) = true := by simp
  have hwc : IntKind.i64.wrap ((c.n : Int) - 1) = ((c.n - 1 : Nat) : Int) := by
    have := ho.cn
    rw [wrap64 (by omega) (by omega)]; omega
  have hy1 : (0 : Int) ≤ ((c.n - 1 : Nat) : Int) := by omega
  have hy2 : ((c.n - 1 : Nat) : Int) < (c.n : Int) := by omega
  have hhc : (c.cs.drop (c.n - 1)).head? = some (N n) := by
    rw [hcc, List.drop_append, List.drop_eq_nil_of_le (by omega), show c.n - 1 - (l.reverse.map fun q => N (q.2.2 : Int)).length = 0 by omega]
    rfl
  have hwn : IntKind.i64.wrap ((n : Int) + 1) = ((n + 1 : Nat) : Int) := by rw [wrap64 (by omega) (by omega)]; omega
  have hsl : decide ((a.n : Int) = ((n + 1 : Nat) : Int)) = true := by simp only [decide_eq_true_eq]; omega
  simp only [hσ, hbσ, hcσ, hbz, hwb, hz1, hz2, hhd, hwc, hy1, hy2, hhc, hwn, hsl, ho.bS, ho.cS, len_rw ra, wrap_u8_two, hne, Int.toNat_natCast, Nat.mul_one, Nat.zero_add, IA, PA, RA0, RA1, RA2, RA3, RA4, RA5, RA6, RA7, RA8, RA9, RA10, Nat.reduceAdd, Nat.reduceMul, Nat.reduceEqDiff, Nat.reduceLeDiff, Nat.reduceLT, Int.reduceToNat, Int.reduceLT, Int.reduceLE, Int.reduceEq, Int.reduceNeg, Int.reduceAdd, Int.reduceSub, Int.reduceMul, reduceIte]
  rw [call_ob_eq (os' := [popR a (r.reverse.flatMap encN), b, c]) (by rfl) hσ hl hn (by rfl) (by exact hpo) hok1 (by simp only [closed, closedL, encN_closed, Bool.and_self]) (by simp only [room, closed, closedL, encN_closed, Bool.and_self]; exact Nat.le_of_ble_eq_true rfl)]
  generalize hτ : aftS _ _ _ _ _ _ = τ
  obtain ⟨ds1, L1, f11, f12, f13, f14, f15⟩ := aft_of hτ hok1 (by omega)
  clear hτ
  simp only [List.length_cons, List.length_nil] at f14
  obtain ⟨da1, db1, dc1, La1, Lb1, Lc1, rfl, rfl, ra1, rb1, rc1⟩ := rw3 f12
  obtain ⟨r1, hb1, rfl, rfl, hbτ⟩ := rb1.pos (by omega)
  obtain ⟨r3, hc1, rfl, rfl, hcτ⟩ := rc1.pos (by omega)
  have hz3 : ((b.n - 1 : Nat) : Int) ≤ (b.n : Int) := by omega
  have hy3 : ((c.n - 1 : Nat) : Int) ≤ (c.n : Int) := by omega
  simp only [f11, hbτ, hcτ, hwb, hz1, hz2, hz3, hwc, hy1, hy2, hy3, cut_w_hi, Int.toNat_natCast, TMA, IA, PA, RA0, RA1, RA2, RA3, RA4, RA5, RA6, RA7, RA8, RA9, RA10, Nat.reduceAdd, Nat.reduceMul, Nat.reduceEqDiff, Nat.reduceLeDiff, Nat.reduceLT, Int.reduceToNat, Int.reduceLT, Int.reduceLE, Int.reduceEq, Int.reduceNeg, Int.reduceAdd, Int.reduceSub, Int.reduceMul, reduceIte]
  have g1 := f14 r1 (by simp)
  have g3 := f14 r3 (by simp)
  rw [call_ob_eq (os' := [popR (popR a (r.reverse.flatMap encN)) (r2.reverse.flatMap encN), cutR b, cutR c]) (by rfl) (by rfl) (leaf3 (ra1.frame (fun q hq => by have := f14 q (by simp [hq]); simp only [upd]; repeat rw [if_neg (by omega)])).leaf (leaf_cut ho.hb (by simp only [upd]; (repeat rw [if_neg (by omega)]); exact hbτ) (by omega) hb1) (leaf_cut ho.hc (by simp only [upd]; (repeat rw [if_neg (by omega)]); exact hcτ) (by omega) hc1)) f13 (by rfl) (by exact hpo2) hok3 (by simp only [closed, closedL, encN_closed, Bool.and_self]) (by simp only [room, closed, closedL, encN_closed, Bool.and_self]; exact Nat.le_of_ble_eq_true rfl)]
  generalize hτ2 : aftS _ _ _ _ _ _ = τ2
  obtain ⟨ds2, L2, f21, f22, f23, f24, f25⟩ := aft_of hτ2 hok3 (by omega)
  clear hτ2
  simp only [List.length_cons, List.length_nil] at f24
  have hbx : τ2 (k + 4 + 180 + 52 + 20) = some (.ob 42 (encN y)) := by
    rw [f25 _ (by omega) (fun hm => by have := f14 _ hm; omega) (.inl (by omega))]
    simp only [upd]
    rw [if_neg (by omega), if_neg (by omega)]
    simp only [if_true]
  have hnk : ¬ (k = k + 152) := by omega
  simp only [f21, hbx, hnk, TMA, IA, PA, RA0, RA1, RA2, RA3, RA4, RA5, RA6, RA7, RA8, RA9, RA10, Nat.reduceAdd, Nat.reduceMul, Nat.reduceEqDiff, Nat.reduceLeDiff, Nat.reduceLT, Int.reduceToNat, Int.reduceLT, Int.reduceLE, Int.reduceEq, Int.reduceNeg, Int.reduceAdd, Int.reduceSub, Int.reduceMul, reduceIte]
  rw [call_ob_eq (os' := [pushR (popR (popR a (r.reverse.flatMap encN)) (r2.reverse.flatMap encN)) (encN (.loop s v z y)), cutR b, cutR c]) (by rfl) (by simp only [upd]; (repeat rw [if_neg (by omega)]); exact f21) (f22.frame (fun r hr => by have := f24 r hr; simp only [upd]; repeat rw [if_neg (by omega)])).leaf f23 (by simp only [List.all_cons, List.all_nil, goes, closed, closedL, closedL_append, encN_closed, Bool.and_self]) (by exact hpu) hok (by rfl) (Nat.le_of_ble_eq_true rfl)]
  generalize hτ3 : aftS _ _ _ _ _ _ = τ3
  obtain ⟨ds3, L3, f31, f32, f33, f34, f35⟩ := aft_of hτ3 hok (by omega)
  clear hτ3
  simp only [List.length_cons, List.length_nil] at f34
  simp only [f31, TMA, IA, PA, RA0, RA1, RA2, RA3, RA4, RA5, RA6, RA7, RA8, RA9, RA10, Nat.reduceAdd, Nat.reduceMul, Nat.reduceEqDiff, Nat.reduceLeDiff, Nat.reduceLT, Int.reduceToNat, Int.reduceLT, Int.reduceLE, Int.reduceEq, Int.reduceNeg, Int.reduceAdd, Int.reduceSub, Int.reduceMul, reduceIte]
  refine out_rows_one (x := B true) (ds := ds3) (ps := [rsV (pushR (popR (popR a (r.reverse.flatMap encN)) (r2.reverse.flatMap encN)) (encN (.loop s v z y))), rsV (cutR b), rsV (cutR c)]) (L := L3) ?_ (by rfl) (by exact f31) f32.leaf f33 (by rfl)
  simp only [IA, PA, RA0, RA1, RA2, RA3, RA4, RA5, RA6, RA7, RA8, RA9, RA10, Nat.reduceAdd, Nat.reduceMul, Nat.reduceEqDiff, Nat.reduceLeDiff, Nat.reduceLT, Int.reduceToNat, Int.reduceLT, Int.reduceLE, Int.reduceEq, Int.reduceNeg, Int.reduceAdd, Int.reduceSub, Int.reduceMul, reduceIte]
end
end Go.Proofs.YtkmnidbodlmaaaaDoor.Ev

/-
Code: what the reference's builder does at any instruction.
-/
namespace Go.Proofs.YtkmnidbodlmaaaaDoor.Ev
section
set_option linter.unusedVariables false
set_option linter.unusedSimpArgs false
open Go Go.RowKit
set_option linter.unusedVariables false
set_option linter.unusedSimpArgs false
theorem do_zero {p : PS} {a b c : RS} (h : BR p a b c) (s : List UInt8) (hk0 : kindM s = 0) :
    EE 74 [lent 75 [rsV a, rsV b, rsV c], S s] = some (.t [B false, .t [lent 75 [rsV a, rsV b, rsV c], S s]]) := by
  have ho := h.ok
  refine EE_rows (os := [a, b, c]) (xs := [S s]) T_do rfl (Nat.le_of_ble_eq_true rfl) (in3 ho.ha ho.hb ho.hc) rfl ?_
  intro ds σ k L hR hn hσ hL hk1 hk
  rw [show opt 74 = [] from rfl]
  simp only [bodyOf, Tryd.f74, SA]
  have hkd : EE 57 [S s] = some (.v (.int .u8 0)) := by rw [l7Kind_ev, hk0]; rfl
  simp only [hkd, IA, PA, RA0, RA1, RA2, RA3, RA4, RA5, RA6, RA7, RA8, RA9, RA10, Nat.reduceAdd, Nat.reduceMul, Nat.reduceEqDiff, Nat.reduceLeDiff, Nat.reduceLT, Int.reduceToNat, Int.reduceLT, Int.reduceLE, Int.reduceEq, Int.reduceNeg, Int.reduceAdd, Int.reduceSub, Int.reduceMul, reduceIte]
  refine out_rows_one (x := B false) (ds := ds) (ps := [rsV a, rsV b, rsV c]) (L := L) ?_ (by rfl) (by exact hσ) hR.leaf hn (by rfl)
  simp only [IA, PA, RA0, RA1, RA2, RA3, RA4, RA5, RA6, RA7, RA8, RA9, RA10, Nat.reduceAdd, Nat.reduceMul, Nat.reduceEqDiff, Nat.reduceLeDiff, Nat.reduceLT, Int.reduceToNat, Int.reduceLT, Int.reduceLE, Int.reduceEq, Int.reduceNeg, Int.reduceAdd, Int.reduceSub, Int.reduceMul, reduceIte]
theorem do_beg_no {p : PS} {a b c : RS} (h : BR p a b c) (x v : UInt8) (hx : x = 91 ∨ x = 123) (hv : isLV v = true) (hle : p.st.length ≤ baseP p.lp) (hb9 : baseP p.lp < 1000000000) :
    EE 74 [lent 75 [rsV a, rsV b, rsV c], S [x, v]] = some (.t [B false, .t [lent 75 [rsV a, rsV b, rsV c], S [x, v]]]) := by
  have ho := h.ok
  have hba := h.base
  have han := h.an
  have hcn := h.cn
  refine EE_rows (os := [a, b, c]) (xs := [S [x, v]]) T_do rfl (Nat.le_of_ble_eq_true rfl) (in3 ho.ha ho.hb ho.hc) rfl ?_
  intro ds σ k L hR hn hσ hL hk1 hk
  have hl := hR.leaf
  obtain ⟨da, db, dc, La, Lb, Lc, rfl, rfl, ra, rb, rc⟩ := rw3 hR
  rw [show opt 74 = [] from rfl]
  simp only [bodyOf, Tryd.f74, SA]
  have hkd : EE 57 [S [x, v]] = some (.v (.int .u8 91)) := by rw [l7Kind_ev, kind_beg hx hv]; rfl
  simp only [hkd, hσ, len_rw rc, IA, PA, RA0, RA1, RA2, RA3, RA4, RA5, RA6, RA7, RA8, RA9, RA10, Nat.reduceAdd, Nat.reduceMul, Nat.reduceEqDiff, Nat.reduceLeDiff, Nat.reduceLT, Int.reduceToNat, Int.reduceLT, Int.reduceLE, Int.reduceEq, Int.reduceNeg, Int.reduceAdd, Int.reduceSub, Int.reduceMul, reduceIte]
  rcases hba with ⟨hc0, hb0⟩ | ⟨hc0, pre, hcs, hpl⟩
  · have hlc : ¬ ((0 : Int) < (c.n : Int)) := by omega
    have hla : ((a.n : Int) ≤ 0) := by omega
    simp only [hlc, hla, hσ, len_rw ra, RR, IA, PA, RA0, RA1, RA2, RA3, RA4, RA5, RA6, RA7, RA8, RA9, RA10, Nat.reduceAdd, Nat.reduceMul, Nat.reduceEqDiff, Nat.reduceLeDiff, Nat.reduceLT, Int.reduceToNat, Int.reduceLT, Int.reduceLE, Int.reduceEq, Int.reduceNeg, Int.reduceAdd, Int.reduceSub, Int.reduceMul, reduceIte]
    refine out_rows_one (x := B false) (ds := [da, db, dc]) (ps := [rsV a, rsV b, rsV c]) (L := La ++ (Lb ++ Lc)) ?_ (by rfl) (by exact hσ) hl hn (by rfl)
    simp only [IA, PA, RA0, RA1, RA2, RA3, RA4, RA5, RA6, RA7, RA8, RA9, RA10, Nat.reduceAdd, Nat.reduceMul, Nat.reduceEqDiff, Nat.reduceLeDiff, Nat.reduceLT, Int.reduceToNat, Int.reduceLT, Int.reduceLE, Int.reduceEq, Int.reduceNeg, Int.reduceAdd, Int.reduceSub, Int.reduceMul, reduceIte]
  · have hlc : ((0 : Int) < (c.n : Int)) := by omega
    obtain ⟨rr, hcb', rfl, rfl, hcσ⟩ := rc.pos hc0
    have hwc : IntKind.i64.wrap ((c.n : Int) - 1) = ((c.n - 1 : Nat) : Int) := by
      have := ho.cn
      rw [wrap64 (by omega) (by omega)]; omega
    have hz1 : (0 : Int) ≤ ((c.n - 1 : Nat) : Int) := by omega
    have hz2 : ((c.n - 1 : Nat) : Int) < (c.n : Int) := by omega
    have hhd : (c.cs.drop (c.n - 1)).head? = some (N (baseP p.lp)) := by
      rw [hcs, List.drop_append, List.drop_eq_nil_of_le (by omega), show c.n - 1 - pre.length = 0 by omega]
      rfl
    have hla : ((a.n : Int) ≤ (baseP p.lp : Int)) := by omega
    simp only [hlc, hcσ, hwc, hz1, hz2, hhd, hla, hσ, ho.cS, Int.toNat_natCast, Nat.mul_one, Nat.zero_add, len_rw ra, RR, IA, PA, RA0, RA1, RA2, RA3, RA4, RA5, RA6, RA7, RA8, RA9, RA10, Nat.reduceAdd, Nat.reduceMul, Nat.reduceEqDiff, Nat.reduceLeDiff, Nat.reduceLT, Int.reduceToNat, Int.reduceLT, Int.reduceLE, Int.reduceEq, Int.reduceNeg, Int.reduceAdd, Int.reduceSub, Int.reduceMul, reduceIte]
    refine out_rows_one (x := B false) (ds := [da, db, .w rr 0 c.n]) (ps := [rsV a, rsV b, rsV c]) (L := La ++ (Lb ++ [rr])) ?_ (by rfl) (by exact hσ) hl hn (by rfl)
    simp only [IA, PA, RA0, RA1, RA2, RA3, RA4, RA5, RA6, RA7, RA8, RA9, RA10, Nat.reduceAdd, Nat.reduceMul, Nat.reduceEqDiff, Nat.reduceLeDiff, Nat.reduceLT, Int.reduceToNat, Int.reduceLT, Int.reduceLE, Int.reduceEq, Int.reduceNeg, Int.reduceAdd, Int.reduceSub, Int.reduceMul, reduceIte]
theorem do_end {p : PS} {a b c a' b' c' : RS} (h : BR p a b c) (x : UInt8) (hx : x = 93 ∨ x = 125) (r : Bool) (ha : rsOk a') (hb : rsOk b') (hc : rsOk c')
    (he : EE 100 [lent 75 [rsV a, rsV b, rsV c], U x] = some (.t [B r, .t [lent 75 [rsV a', rsV b', rsV c'], U x]])) :
    EE 74 [lent 75 [rsV a, rsV b, rsV c], S [x]] = some (.t [B r, .t [lent 75 [rsV a', rsV b', rsV c'], S [x]]]) := by
  have ho := h.ok
  refine EE_rows (os := [a, b, c]) (xs := [S [x]]) T_do rfl (Nat.le_of_ble_eq_true rfl) (in3 ho.ha ho.hb ho.hc) rfl ?_
  intro ds σ k L hR hn hσ hL hk1 hk
  rw [show opt 74 = [] from rfl]
  simp only [bodyOf, Tryd.f74, SA]
  have hkd : EE 57 [S [x]] = some (.v (.int .u8 93)) := by rw [l7Kind_ev, kind_end hx]; rfl
  have hok := in3 ha hb hc
  simp only [hkd, IA, PA, RA0, RA1, RA2, RA3, RA4, RA5, RA6, RA7, RA8, RA9, RA10, Nat.reduceAdd, Nat.reduceMul, Nat.reduceEqDiff, Nat.reduceLeDiff, Nat.reduceLT, Int.reduceToNat, Int.reduceLT, Int.reduceLE, Int.reduceEq, Int.reduceNeg, Int.reduceAdd, Int.reduceSub, Int.reduceMul, reduceIte]
  rw [call_ob_eq (os' := [a', b', c']) (by rfl) hσ hR.leaf hn (by rfl) (by exact he) hok (by rfl) (Nat.le_of_ble_eq_true rfl)]
  generalize hτ : aftS _ _ _ _ _ _ = τ
  obtain ⟨ds1, L1, f1, f2, f3, f4, f5⟩ := aft_of hτ hok (by omega)
  clear hτ
  simp only [f1, IA, PA, RA0, RA1, RA2, RA3, RA4, RA5, RA6, RA7, RA8, RA9, RA10, Nat.reduceAdd, Nat.reduceMul, Nat.reduceEqDiff, Nat.reduceLeDiff, Nat.reduceLT, Int.reduceToNat, Int.reduceLT, Int.reduceLE, Int.reduceEq, Int.reduceNeg, Int.reduceAdd, Int.reduceSub, Int.reduceMul, reduceIte]
  refine out_rows_one (x := B r) (ds := ds1) (ps := [rsV a', rsV b', rsV c']) (L := L1) ?_ (by rfl) (by exact f1) f2.leaf f3 (by rfl)
  simp only [IA, PA, RA0, RA1, RA2, RA3, RA4, RA5, RA6, RA7, RA8, RA9, RA10, Nat.reduceAdd, Nat.reduceMul, Nat.reduceEqDiff, Nat.reduceLeDiff, Nat.reduceLT, Int.reduceToNat, Int.reduceLT, Int.reduceLE, Int.reduceEq, Int.reduceNeg, Int.reduceAdd, Int.reduceSub, Int.reduceMul, reduceIte]
/-- What is told of an instruction done. -/
def Done (p : PS) (a b c : RS) (s : List UInt8) : Prop :=
  ∃ r a' b' c', rsOk a' ∧ rsOk b' ∧ rsOk c' ∧ EE 74 [lent 75 [rsV a, rsV b, rsV c], S s] = some (.t [B r, .t [lent 75 [rsV a', rsV b', rsV c'], S s]]) ∧
    match doP s p with
    | some p' => r = true ∧ BR p' a' b' c'
    | none => r = false
theorem BR.begun {p : PS} {a b c : RS} (h : BR p a b c) (x v : UInt8) (hb : p.st.length < 1000000000) (hl : p.lp.length + 1 < 1000000000) : BR ⟨p.st, (x, v, p.st.length) :: p.lp⟩ a (begR b 9 (S [x, v])) (begR c 3 (N p.st.length)) := by
  have ho := h.ok
  have hb1 := h.bn
  have hc1 := h.cn
  refine ⟨⟨ho.ha, begR_ok ho.hb ho.bS rfl, begR_ok ho.hc ho.cS rfl, ho.aE, ho.aS, rfl, rfl, rfl, rfl, ho.an, ?_, ?_⟩, h.an, h.ac, ?_, ?_, ?_, ?_⟩
  · simp only [begR]; omega
  · simp only [begR]; omega
  · simp only [begR, List.length_cons]; omega
  · simp only [begR, h.bc, List.reverse_cons, List.map_append, List.map_cons, List.map_nil]
  · simp only [begR, List.length_cons]; omega
  · simp only [begR, h.cc, List.reverse_cons, List.map_append, List.map_cons, List.map_nil]
theorem do_br {p : PS} {a b c : RS} (h : BR p a b c) (hi : InvP p) (s : List UInt8) (hb : p.st.length + 1 < 1000000000) (hl : p.lp.length + 1 < 1000000000) : Done p a b c s := by
  have ho := h.ok
  have hb9 : baseP p.lp < 1000000000 := by have := hi.hb; omega
  unfold Done
  rcases s with _ | ⟨x, _ | ⟨v, _ | ⟨d, s⟩⟩⟩
  · exact ⟨false, a, b, c, ho.ha, ho.hb, ho.hc, do_zero h _ rfl, rfl⟩
  · by_cases hd : isDig x = true
    · have e : leafI x = .dig x := by simp [leafI, hd]
      refine ⟨true, _, b, c, pushR_ok ho.ha ho.aS (encN_len _) (encN_closed _), ho.hb, ho.hc, do_a h x (.inl hd), ?_⟩
      simp only [doP, hd, if_true]
      rw [e]
      exact ⟨by first | rfl | trivial, h.pushed (.dig x) hb⟩
    by_cases hv : isVar x = true
    · have e : leafI x = .var x := by simp [leafI, hd]
      refine ⟨true, _, b, c, pushR_ok ho.ha ho.aS (encN_len _) (encN_closed _), ho.hb, ho.hc, do_a h x (.inr hv), ?_⟩
      simp only [doP, hd, hv, if_true, Bool.false_eq_true, if_false]
      rw [e]
      exact ⟨by first | rfl | trivial, h.pushed (.var x) hb⟩
    by_cases h1 : isOne x = true
    · simp only [doP, hd, hv, h1, if_true, Bool.false_eq_true, if_false]
      cases hp : popP p.st (baseP p.lp) with
      | none => exact ⟨false, _, b, c, pushR_ok ho.ha ho.aS rfl rfl, ho.hb, ho.hc, do_S_no h x h1 hb9 hp, rfl⟩
      | some q =>
        obtain ⟨y, r⟩ := q
        obtain ⟨hs, hle⟩ := popP_some hp
        have h2 := h.popped hs
        have hr : r.length + 1 < 1000000000 := by rw [hs] at hb; simp only [List.length_cons] at hb; omega
        have h3 := h2.pushed (.one x y) hr
        exact ⟨true, _, b, c, h3.ok.ha, ho.hb, ho.hc, do_S h x h1 hp, by first | rfl | trivial, h3⟩
    by_cases h2 : isTwo x = true
    · simp only [doP, hd, hv, h1, h2, if_true, Bool.false_eq_true, if_false]
      cases hp : popP p.st (baseP p.lp) with
      | none => exact ⟨false, _, b, c, pushR_ok ho.ha ho.aS rfl rfl, ho.hb, ho.hc, do_2_no h x h2 hb9 hp, rfl⟩
      | some q =>
        obtain ⟨y, r⟩ := q
        obtain ⟨hs, hle⟩ := popP_some hp
        have h3 := h.popped hs
        cases hq : popP r (baseP p.lp) with
        | none =>
          simp only [hq]
          exact ⟨false, _, b, c, pushR_ok h3.ok.ha h3.ok.aS rfl (by simp only [closed, closedL, zeroN, closedL_append, encN_closed, Bool.and_self]), ho.hb, ho.hc, do_2_no2 h x h2 hb9 hp hq, rfl⟩
        | some q =>
          obtain ⟨z, r2⟩ := q
          obtain ⟨hs2, hle2⟩ := popP_some hq
          have h4 := h3.popped hs2
          have hr : r2.length + 1 < 1000000000 := by rw [hs, hs2] at hb; simp only [List.length_cons] at hb; omega
          have h5 := h4.pushed (.two x z y) hr
          simp only [hq]
          exact ⟨true, _, b, c, h5.ok.ha, ho.hb, ho.hc, do_2 h x h2 hp hq, by first | rfl | trivial, h5⟩
    by_cases h3 : x = 93 ∨ x = 125
    · simp only [doP, hd, hv, h1, h2, h3, if_true, Bool.false_eq_true, if_false, endP]
      cases hlp : p.lp with
      | nil => exact ⟨false, a, b, c, ho.ha, ho.hb, ho.hc, do_end h x h3 false ho.ha ho.hb ho.hc (end_none h x hlp), rfl⟩
      | cons q l =>
        obtain ⟨s, v, n⟩ := q
        have hil := hi.hl
        have hib := hi.hb
        rw [hlp] at hil hib
        have hib' : n ≤ p.st.length := hib
        obtain ⟨hil1, hil2, hil3⟩ := hil
        have hn9 : n < 1000000000 := by omega
        simp only
        by_cases hs : s + 2 = x
        · by_cases hlen : p.st.length = n + 1
          · rw [if_pos ⟨hs, hlen⟩]
            cases hst : p.st with
            | nil => rw [hst] at hlen; simp at hlen
            | cons y r =>
              rw [hst] at hlen
              simp only [List.length_cons] at hlen
              rw [popP_mk (by omega)]
              simp only
              cases r with
              | nil => simp only [List.length_nil] at hlen; omega
              | cons z r2 =>
                simp only [List.length_cons] at hlen
                have hq : popP p.st n = some (y, z :: r2) := by rw [hst, popP_mk (by simp only [List.length_cons]; omega)]
                have hq2 : popP (z :: r2) (baseP l) = some (z, r2) := popP_mk (by omega)
                rw [hq2]
                have hq' : popP p.st (baseP p.lp) = some (y, z :: r2) := by rw [hlp]; exact hq
                have h4 := ((h.popped hst).ended (s := s) (v := v) (n := n) (l := l) hlp)
                have h5 := (h4.popped (x := z) (r := r2) rfl).pushed (.loop s v z y) (by rw [hst] at hb; simp only [List.length_cons] at hb; simp only; omega)
                exact ⟨true, _, _, _, h5.ok.ha, h5.ok.hb, h5.ok.hc, do_end h x h3 true h5.ok.ha h5.ok.hb h5.ok.hc (end_ok h x hlp hs hn9 (by rw [hst]; simp only [List.length_cons]; omega) hq hq2), by first | rfl | trivial, h5⟩
          · rw [if_neg (by intro hh; exact hlen hh.2)]
            exact ⟨false, a, b, c, ho.ha, ho.hb, ho.hc, do_end h x h3 false ho.ha ho.hb ho.hc (end_len h x hlp hs hn9 hlen), rfl⟩
        · rw [if_neg (by intro hh; exact hs hh.1)]
          exact ⟨false, a, b, c, ho.ha, ho.hb, ho.hc, do_end h x h3 false ho.ha ho.hb ho.hc (end_sign h x hlp hs), rfl⟩
    · simp only [doP, hd, hv, h1, h2, h3, if_true, Bool.false_eq_true, if_false]
      refine ⟨false, a, b, c, ho.ha, ho.hb, ho.hc, do_zero h _ ?_, rfl⟩
      simp only [not_or] at h3
      simp [kindM, hd, hv, h1, h2, h3]
  · by_cases hx : (x = 91 ∨ x = 123) ∧ isLV v = true
    · simp only [doP]
      rw [if_pos hx]
      by_cases hlt : baseP p.lp < p.st.length
      · rw [if_pos hlt]
        have h2 := h.begun x v (by omega) hl
        exact ⟨true, _, _, _, h2.ok.ha, h2.ok.hb, h2.ok.hc, do_beg h x v hx.1 hx.2 hlt, by first | rfl | trivial, h2⟩
      · rw [if_neg hlt]
        exact ⟨false, a, b, c, ho.ha, ho.hb, ho.hc, do_beg_no h x v hx.1 hx.2 (by omega) hb9, rfl⟩
    · simp only [doP]
      rw [if_neg hx]
      refine ⟨false, a, b, c, ho.ha, ho.hb, ho.hc, do_zero h _ ?_, rfl⟩
      simp only [kindM]
      rw [if_neg]
      simpa using hx
  · exact ⟨false, a, b, c, ho.ha, ho.hb, ho.hc, do_zero h _ rfl, rfl⟩
end
end Go.Proofs.YtkmnidbodlmaaaaDoor.Ev

/-
Code: heights and levels, step by step.
-/
namespace Go.Proofs.YtkmnidbodlmaaaaDoor.Ev
section
set_option linter.unusedVariables false
set_option linter.unusedSimpArgs false
open Go Go.RowKit
set_option linter.unusedVariables false
set_option linter.unusedSimpArgs false
/-- How an instruction changes the number of terms, of loops. -/
def dH (s : List UInt8) : Int := if begM s = true then 0 else if endM s = true then -1 else 1 - arM s
def dL (s : List UInt8) : Int := if begM s = true then 1 else if endM s = true then -1 else 0
theorem doP_len {s : List UInt8} {p p' : PS} (h : doP s p = some p') : (p'.st.length : Int) = p.st.length + dH s ∧ (p'.lp.length : Int) = p.lp.length + dL s := by
  obtain ⟨st, lp⟩ := p
  unfold doP at h
  split at h
  · rename_i a
    have hb : begM [a] = false := rfl
    split at h
    · rename_i hd
      obtain rfl := Option.some.inj h
      have h1 := dig_not_one hd
      have h2 := not_end (.inr (.inr (.inl hd)))
      have h3 : endM [a] = false := by simpa [endM] using h2
      have h4 : arM [a] = 0 := by simp [arM, h1]
      simp only [dH, dL, hb, h3, h4, Bool.false_eq_true, if_false, List.length_cons]
      omega
    split at h
    · rename_i hd
      obtain rfl := Option.some.inj h
      have h1 := var_not_one hd
      have h2 := not_end (.inr (.inr (.inr hd)))
      have h3 : endM [a] = false := by simpa [endM] using h2
      have h4 : arM [a] = 0 := by simp [arM, h1]
      simp only [dH, dL, hb, h3, h4, Bool.false_eq_true, if_false, List.length_cons]
      omega
    split at h
    · rename_i hd
      have h2 := not_end (.inl hd)
      have h3 : endM [a] = false := by simpa [endM] using h2
      have h4 : arM [a] = 1 := by simp [arM, hd]
      split at h
      · rename_i x s1 h1
        obtain rfl := Option.some.inj h
        obtain ⟨h5, _⟩ := popP_some h1
        simp only at h5
        simp only [dH, dL, hb, h3, h4, h5, Bool.false_eq_true, if_false, List.length_cons]
        omega
      · cases h
    split at h
    · rename_i h0 hd
      have h2 := not_end (.inr (.inl hd))
      have h3 : endM [a] = false := by simpa [endM] using h2
      have h4 : arM [a] = 2 := by simp [arM, hd, h0]
      split at h
      · rename_i y s1 h1
        split at h
        · rename_i x s2 h6
          obtain rfl := Option.some.inj h
          obtain ⟨h5, _⟩ := popP_some h1
          obtain ⟨h7, _⟩ := popP_some h6
          simp only at h5 h7
          simp only [dH, dL, hb, h3, h4, h5, h7, Bool.false_eq_true, if_false, List.length_cons]
          omega
        · cases h
      · cases h
    split at h
    · rename_i he
      have h3 : endM [a] = true := by simpa [endM] using he
      cases lp with
      | nil => cases h
      | cons q lp =>
        obtain ⟨c, v, b⟩ := q
        simp only [endP] at h
        split at h
        · rename_i hc
          split at h
          · rename_i y s1 h1
            split at h
            · rename_i x s2 h6
              obtain rfl := Option.some.inj h
              obtain ⟨h5, _⟩ := popP_some h1
              obtain ⟨h7, _⟩ := popP_some h6
              simp only [dH, dL, hb, h3, h5, h7, Bool.false_eq_true, if_false, if_true, List.length_cons]
              omega
            · cases h
          · cases h
        · cases h
    · cases h
  · rename_i a v
    split at h
    · rename_i hc
      split at h
      · obtain rfl := Option.some.inj h
        have h3 : begM [a, v] = true := by simpa [begM] using hc.1
        simp only [dH, dL, h3, if_true, List.length_cons]
        omega
      · cases h
    · cases h
  · cases h
theorem dH_le (s : List UInt8) : dH s ≤ 1 := by
  unfold dH
  split
  · omega
  split
  · omega
  · have : 0 ≤ arM s := by
      unfold arM
      split
      · split
        · omega
        · split <;> omega
      · omega
    omega
theorem dL_le (s : List UInt8) : dL s ≤ 1 := by
  unfold dL
  split
  · omega
  split <;> omega
/-- Heights and levels as the implementation counts them. -/
def hsI : Int → List (List UInt8) → List Int
  | _, [] => []
  | h, s :: l => (h + dH s) :: hsI (h + dH s) l
def lsI : Int → List (List UInt8) → List Int
  | _, [] => []
  | v, s :: l => (if endM s = true then v - 1 else v) :: lsI (v + dL s) l
theorem beg_end {s : List UInt8} (h : begM s = true) : endM s = false := by
  unfold begM at h
  split at h
  · rfl
  · cases h
theorem runP_lists : ∀ {l : List (List UInt8)} {p q : PS} {hs ls : List Nat}, runP l p = some (q, hs, ls) → hs.map Int.ofNat = hsI p.st.length l ∧ ls.map Int.ofNat = lsI p.lp.length l
  | [], p, q, hs, ls, h => by
    simp only [runP, Option.some.injEq, Prod.mk.injEq] at h
    obtain ⟨_, rfl, rfl⟩ := h
    exact ⟨rfl, rfl⟩
  | s :: l, p, q, hs, ls, h => by
    simp only [runP] at h
    split at h
    · rename_i p' h1
      split at h
      · rename_i q' hs' ls' h2
        simp only [Option.some.injEq, Prod.mk.injEq] at h
        obtain ⟨_, rfl, rfl⟩ := h
        obtain ⟨k1, k2⟩ := runP_lists h2
        obtain ⟨e1, e2⟩ := doP_len h1
        simp only [List.map_cons, hsI, lsI, k1, k2, ← e1, ← e2]
        refine ⟨rfl, ?_⟩
        congr 1
        show ((min p.lp.length p'.lp.length : Nat) : Int) = _
        unfold dL at e2
        by_cases hb : begM s = true
        · rw [if_pos hb] at e2
          rw [beg_end hb]
          simp only [Bool.false_eq_true, if_false]
          omega
        · rw [if_neg hb] at e2
          split at e2
          · rename_i he
            rw [if_pos he]
            omega
          · rename_i he
            rw [if_neg he]
            omega
      · cases h
    · cases h
end
end Go.Proofs.YtkmnidbodlmaaaaDoor.Ev

/-
Code: the reference's builder over all instructions.
-/
namespace Go.Proofs.YtkmnidbodlmaaaaDoor.Ev
section
set_option linter.unusedVariables false
set_option linter.unusedSimpArgs false
open Go Go.RowKit
set_option linter.unusedVariables false
set_option linter.unusedSimpArgs false
def own : AV → List Nat
  | .w id _ _ => [id]
  | _ => []
theorem own_other {σ : Sto} {key E sz n : Nat} {v : AV} {cs : List AV} {i : Nat} (h1 : i ≠ key) (h2 : i ∉ own v) : appSto σ key E sz v n cs i = σ i := by
  refine appSto_other h1 fun id lo k hd he => ?_
  subst hd
  exact h2 (by simp [own, he])
theorem lst_frame {σ τ : Sto} {nx nx' E sz n : Nat} {v : AV} {cs : List AV} (h : Lst σ nx E sz v n cs) (hs : ∀ i ∈ own v, τ i = σ i) (hn : nx ≤ nx') : Lst τ nx' E sz v n cs := by
  rcases h with h | ⟨id, h1, rfl, h2, h3⟩
  · exact .inl h
  · exact .inr ⟨id, by omega, rfl, by rw [hs id (by simp [own]), h2], h3⟩
theorem lst_own {σ : Sto} {nx E sz n : Nat} {v : AV} {cs : List AV} (h : Lst σ nx E sz v n cs) : ∀ i ∈ own v, i < nx := by
  intro i hi
  rcases h with ⟨rfl, h⟩ | ⟨id, h1, rfl, h2, h3⟩
  · simp [own] at hi
  · simp only [own, List.mem_singleton] at hi
    omega
def nats (l : List Nat) : List AV := l.map fun (n : Nat) => N (n : Int)
theorem nats_len (l : List Nat) : (nats l).length = l.length := by simp [nats]
/-- What stands before a round of the loop: e 6: the builder, e 7: heights, e 8: levels, e 23: the instructions. -/
structure BLp (k2 kb kL : Nat) (L : List (List UInt8)) (i : Nat) (hs ls : List Nat) (p : PS) (a b c : RS) (ds : List AV) (Ls : List Nat) (e : Nat → AV) (σ : Sto) (nx : Nat) : Prop where
  br : BR p a b c
  inv : InvP p
  e6 : e 6 = .r kb 0
  sb : σ kb = some (.ob 75 ds)
  rw : RwL σ [a, b, c] ds Ls
  nd : (kb :: Ls).Nodup
  kbn : kb < nx
  Lsn : ∀ r ∈ Ls, r < nx
  e23 : e 23 = .w kL 0 L.length
  sL : σ kL = some (.row 9 1 L.length (strs L))
  kLn : kL < nx
  kL1 : kL ≠ kb
  kL2 : kL ∉ Ls
  e24 : e 24 = N L.length
  e25 : e 25 = N i
  h7 : Lst σ nx 3 1 (e 7) hs.length (nats hs)
  h8 : Lst σ nx 3 1 (e 8) ls.length (nats ls)
  o7 : ∀ j ∈ own (e 7), j ≠ kb ∧ j ∉ Ls ∧ j ≠ kL ∧ j ≠ k2 ∧ j ∉ own (e 8)
  o8 : ∀ j ∈ own (e 8), j ≠ kb ∧ j ∉ Ls ∧ j ≠ kL ∧ j ≠ k2
  e2 : e 2 = .r k2 0
  s2 : σ k2 = some (.ob 42 zeroN)
  k2n : k2 < nx
  k21 : k2 ≠ kb
  k22 : k2 ∉ Ls
  k23 : k2 ≠ kL
theorem l7Build_loop (k2 kb kL : Nat) (L : List (List UInt8)) (hL : L.length < 100000000) : ∀ (r : List (List UInt8)) (i n : Nat) (hs ls : List Nat) (p : PS) (a b c : RS) (ds : List AV) (Ls : List Nat) (e : Nat → AV) (σ : Sto) (nx : Nat) (q : Option (Ex × St)),
    L.drop i = r → i ≤ L.length → r.length < n → p.st.length ≤ i → p.lp.length ≤ i → hs.length ≤ i → ls.length ≤ i → BLp k2 kb kL L i hs ls p a b c ds Ls e σ nx →
    roundsE (evC II EE (withOpt [] pf) MX (bodyL Tryd.f44 0)) n ⟨e, σ, nx⟩ = q →
    match runP r p with
    | some (p', hs', ls') => ∃ e' σ' nx' a' b' c' ds' Ls', q = some (.exit 0, ⟨e', σ', nx'⟩) ∧ BLp k2 kb kL L L.length (hs ++ hs') (ls ++ ls') p' a' b' c' ds' Ls' e' σ' nx'
    | none => ∃ e' σ' nx', q = some (.ret, ⟨e', σ', nx'⟩) ∧ e' 2 = .r k2 0 ∧ σ' k2 = some (.ob 42 zeroN) ∧ e' 3 = .s true 0 [] ∧ e' 4 = .s true 0 [] ∧ e' 5 = B false := by
  intro r
  induction r with
  | nil =>
    intro i n hs ls p a b c ds Ls e σ nx q hd hiL hn hp1 hp2 hh1 hh2 hB hq
    have hlen : L.length ≤ i := by simpa using hd
    have hiE : i = L.length := by omega
    subst hiE
    obtain ⟨k, rfl⟩ : ∃ k, n = k + 1 := ⟨n - 1, by omega⟩
    rw [rounds_rd] at hq
    have hc : ¬ ((L.length : Int) < (L.length : Int)) := by omega
    have h24 := hB.e24
    have h25 := hB.e25
    simp only [bodyL, bodyOf, Tryd.f44, SA, loops, List.nil_append, List.append_nil, List.cons_append, List.getD_cons_zero, List.getD_cons_succ] at hq
    simp only [h24, h25, hc, IA, PA, RA0, RA1, RA2, RA3, RA4, RA5, RA6, RA7, RA8, RA9, RA10, Nat.reduceAdd, Nat.reduceMul, Nat.reduceEqDiff, Nat.reduceLeDiff, Nat.reduceLT, Int.reduceToNat, Int.reduceLT, Int.reduceLE, Int.reduceEq, Int.reduceNeg, Int.reduceAdd, Int.reduceSub, Int.reduceMul, reduceIte] at hq
    refine ⟨_, _, _, a, b, c, ds, Ls, hq.symm, ?_⟩
    have h7 := hB.h7
    have h8 := hB.h8
    simp only [List.append_nil]
    exact ⟨hB.br, hB.inv, hB.e6, hB.sb, hB.rw, hB.nd, by have := hB.kbn; omega, fun r hr => by have := hB.Lsn r hr; omega, hB.e23, hB.sL, by have := hB.kLn; omega, hB.kL1, hB.kL2, h24, h25, lst_mono h7 (by omega), lst_mono h8 (by omega), hB.o7, hB.o8, hB.e2, hB.s2, by have := hB.k2n; omega, hB.k21, hB.k22, hB.k23⟩
  | cons x r ih =>
    intro i n hs ls p a b c ds Ls e σ nx q hd hiL hn hp1 hp2 hh1 hh2 hB hq
    obtain ⟨hi, hx, hd'⟩ := strs_drop_head hd
    obtain ⟨k, rfl⟩ : ∃ k, n = k + 1 := ⟨n - 1, by omega⟩
    rw [rounds_rd] at hq
    have hc : ((i : Int) < (L.length : Int)) := by omega
    have hz : (0 : Int) ≤ (i : Int) := by omega
    have hw : IntKind.i64.wrap ((i : Int) + 1) = ((i + 1 : Nat) : Int) := by rw [wrap64 (by omega) (by omega)]; rfl
    have hhd : ((strs L).drop i).head? = some (S x) := by rw [strs_drop, hd]; rfl
    have hdo := do_br hB.br hB.inv x (by omega) (by omega)
    obtain ⟨rr, a', b', c', ha', hb', hc', hE, hres⟩ := hdo
    have h6 := hB.e6
    have h23 := hB.e23
    have h24 := hB.e24
    have h25 := hB.e25
    have hsL := hB.sL
    have hsb := hB.sb
    have hR := hB.rw
    have hleaf := hR.leaf
    have hnd := hB.nd
    obtain ⟨da, db, dc, La, Lb, Lc, rfl, rfl, ra, rb, rc⟩ := rw3 hR
    simp only [bodyL, bodyOf, Tryd.f44, SA, loops, List.nil_append, List.append_nil, List.cons_append, List.getD_cons_zero, List.getD_cons_succ] at hq
    simp only [h6, h23, h24, h25, hsL, hsb, hc, hz, hw, hhd, len_rw rb, Int.toNat_natCast, Nat.mul_one, Nat.zero_add, RR, IA, PA, RA0, RA1, RA2, RA3, RA4, RA5, RA6, RA7, RA8, RA9, RA10, Nat.reduceAdd, Nat.reduceMul, Nat.reduceEqDiff, Nat.reduceLeDiff, Nat.reduceLT, Int.reduceToNat, Int.reduceLT, Int.reduceLE, Int.reduceEq, Int.reduceNeg, Int.reduceAdd, Int.reduceSub, Int.reduceMul, reduceIte] at hq
    have hkbn := hB.kbn
    have hok := in3 ha' hb' hc'
    rw [call_ob_eq (os' := [a', b', c']) (by rfl) hsb hleaf hnd (by rfl) (by exact hE) hok (by rfl) (Nat.le_of_ble_eq_true rfl)] at hq
    generalize hτ : aftS _ _ _ _ _ _ = τ at hq
    obtain ⟨ds1, L1, f1, f2, f3, f4, f5⟩ := aft_of hτ hok (by omega)
    clear hτ
    simp only [List.length_cons, List.length_nil] at f4 f5
    simp only [runP]
    cases hdp : doP x p with
    | none =>
      rw [hdp] at hres
      simp only at hres
      subst hres
      have h2 := hB.e2
      have hs2 : τ k2 = some (.ob 42 zeroN) := by rw [f5 k2 hB.k21 hB.k22 (.inl (by have := hB.k2n; omega))]; exact hB.s2
      simp only [f1, h2, hs2, zeroN, TMA, RR, IA, PA, RA0, RA1, RA2, RA3, RA4, RA5, RA6, RA7, RA8, RA9, RA10, Nat.reduceAdd, Nat.reduceMul, Nat.reduceEqDiff, Nat.reduceLeDiff, Nat.reduceLT, Int.reduceToNat, Int.reduceLT, Int.reduceLE, Int.reduceEq, Int.reduceNeg, Int.reduceAdd, Int.reduceSub, Int.reduceMul, reduceIte] at hq
      refine ⟨_, _, _, hq.symm, by simpa using h2, ?_, rfl, rfl, rfl⟩
      simp only [upd, if_true]
      rfl
    | some p' =>
      rw [hdp] at hres
      obtain ⟨hrt, hbr⟩ := hres
      subst hrt
      obtain ⟨da1, db1, dc1, La1, Lb1, Lc1, rfl, rfl, ra1, rb1, rc1⟩ := rw3 f2
      have h7 := hB.h7
      have h8 := hB.h8
      have hbn := hB.br.bn
      have hbn1 := hbr.bn
      have han1 := hbr.an
      have h6b := hB.e6
      simp only [f1, h6b, len_rw rb1, RR, IA, PA, RA0, RA1, RA2, RA3, RA4, RA5, RA6, RA7, RA8, RA9, RA10, Nat.reduceAdd, Nat.reduceMul, Nat.reduceEqDiff, Nat.reduceLeDiff, Nat.reduceLT, Int.reduceToNat, Int.reduceLT, Int.reduceLE, Int.reduceEq, Int.reduceNeg, Int.reduceAdd, Int.reduceSub, Int.reduceMul, reduceIte] at hq
      have hmin : (if (b'.n : Int) < (b.n : Int) then (b'.n : Int) else (b.n : Int)) = ((min p.lp.length p'.lp.length : Nat) : Int) := by
        rw [hbn, hbn1]
        split <;> omega
      have hls : ls.length + 1 < 1000000000 := by omega
      have hhs : hs.length + 1 < 1000000000 := by omega
      have hkeep : ∀ j, j ≠ kb → j ∉ La ++ (Lb ++ Lc) → j < nx → τ j = σ j := fun j h1 h2 h3 => f5 j h1 h2 (.inl (by omega))
      have hl8 : Lst τ nx 3 1 (e 8) ls.length (nats ls) := lst_frame h8 (fun j hj => hkeep j (hB.o8 j hj).1 (hB.o8 j hj).2.1 (lst_own h8 j hj)) (Nat.le_refl _)
      have hl7 : Lst τ nx 3 1 (e 7) hs.length (nats hs) := lst_frame h7 (fun j hj => hkeep j (hB.o7 j hj).1 (hB.o7 j hj).2.1 (lst_own h7 j hj)) (Nat.le_refl _)
      rw [hmin, lst_app hl8 (by decide) (by rfl) (by rfl) (by decide) (by omega) (by omega) (by omega)] at hq
      generalize hτ2 : appSto _ _ _ _ (e 8) _ _ = τ2 at hq
      have t1 := (congrFun hτ2 _).symm.trans (appSto_key ..)
      have t2 : ∀ j, j ≠ _ → j ∉ own (e 8) → τ2 j = τ j := fun j h1 h2 => (congrFun hτ2 j).symm.trans (own_other h1 h2)
      clear hτ2
      have hL1o : ∀ j ∈ La1 ++ (Lb1 ++ Lc1), j ∉ own (e 8) := fun j hj h => by have := f4 j hj; have := lst_own h8 j h; omega
      have t3 : τ2 kb = some (.ob 75 [da1, db1, dc1]) := by rw [t2 kb (by omega) (fun h => (hB.o8 kb h).1 rfl), f1]
      have ra2 : Rw τ2 a' da1 La1 := ra1.frame fun r hr => t2 r (by have := f4 r (by simp [hr]); omega) (hL1o r (by simp [hr]))
      have hl72 : Lst τ2 nx 3 1 (e 7) hs.length (nats hs) := lst_frame hl7 (fun j hj => t2 j (by have := lst_own h7 j hj; omega) (hB.o7 j hj).2.2.2.2) (Nat.le_refl _)
      simp only [t3, h6b, len_rw ra2, RR, IA, PA, RA0, RA1, RA2, RA3, RA4, RA5, RA6, RA7, RA8, RA9, RA10, Nat.reduceAdd, Nat.reduceMul, Nat.reduceEqDiff, Nat.reduceLeDiff, Nat.reduceLT, Int.reduceToNat, Int.reduceLT, Int.reduceLE, Int.reduceEq, Int.reduceNeg, Int.reduceAdd, Int.reduceSub, Int.reduceMul, reduceIte] at hq
      rw [lst_app hl72 (by decide) (by rfl) (by rfl) (by decide) (by omega) (by omega) (by omega)] at hq
      generalize hτ3 : appSto _ _ _ _ (e 7) _ _ = τ3 at hq
      have u1 := (congrFun hτ3 _).symm.trans (appSto_key ..)
      have u2 : ∀ j, j ≠ _ → j ∉ own (e 7) → τ3 j = τ2 j := fun j h1 h2 => (congrFun hτ3 j).symm.trans (own_other h1 h2)
      clear hτ3
      simp only [h25, hw, RR, IA, PA, RA0, RA1, RA2, RA3, RA4, RA5, RA6, RA7, RA8, RA9, RA10, Nat.reduceAdd, Nat.reduceMul, Nat.reduceEqDiff, Nat.reduceLeDiff, Nat.reduceLT, Int.reduceToNat, Int.reduceLT, Int.reduceLE, Int.reduceEq, Int.reduceNeg, Int.reduceAdd, Int.reduceSub, Int.reduceMul, reduceIte] at hq
      have hfin : ∀ j, j < nx + 4 + 12 + 24 + 16 → j ∉ own (e 7) → j ∉ own (e 8) → τ3 j = τ j := fun j h1 h2 h3 => by rw [u2 j (by omega) h2, t2 j (by omega) h3]
      have hL1o7 : ∀ j ∈ La1 ++ (Lb1 ++ Lc1), j ∉ own (e 7) := fun j hj h => by have := f4 j hj; have := lst_own h7 j h; omega
      obtain ⟨q1, q2⟩ := doP_len hdp
      have q3 := dH_le x
      have q4 := dL_le x
      have hN1 : ∀ j ∈ own (e 7), j < nx := lst_own h7
      have hN2 : ∀ j ∈ own (e 8), j < nx := lst_own h8
      have hf1 : ∀ j ∈ La1 ++ (Lb1 ++ Lc1), τ3 j = τ j := fun j hj => hfin j (by have := f4 j hj; omega) (hL1o7 j hj) (hL1o j hj)
      have hkL := hB.kLn
      have hk2 := hB.k2n
      have hL1k : ∀ (j : Nat), j < nx → j ∉ La1 ++ (Lb1 ++ Lc1) := fun j hj hm => by have := f4 j hm; omega
      have key := fun hh => ih (i + 1) k (hs ++ [p'.st.length]) (ls ++ [min p.lp.length p'.lp.length]) p' a' b' c' [da1, db1, dc1] (La1 ++ (Lb1 ++ Lc1)) _ τ3 _ q hd' (by omega) (by simpa using hn) (by omega) (by omega) (by simp; omega) (by simp; omega) hh hq
      have := key ⟨hbr, (doP_code hdp hB.inv).1, h6b, ?g1, ?g2, f3, by omega, fun r hr => by have := f4 r hr; omega, h23, ?g3, by omega, hB.kL1, hL1k kL hkL, h24, rfl, ?g4, ?g5, ?g6, ?g7, hB.e2, ?g8, by omega, hB.k21, hL1k k2 hk2, hB.k23⟩
      case g1 => rw [hfin kb (by omega) (fun h => (hB.o7 kb h).1 rfl) (fun h => (hB.o8 kb h).1 rfl), f1]
      case g2 => exact (rw3_mk ra1 rb1 rc1).frame hf1
      case g3 => rw [hfin kL (by omega) (fun h => (hB.o7 kL h).2.2.1 rfl) (fun h => (hB.o8 kL h).2.2.1 rfl), hkeep kL hB.kL1 hB.kL2 hkL, hsL]
      case g8 => rw [hfin k2 (by omega) (fun h => (hB.o7 k2 h).2.2.2.1 rfl) (fun h => (hB.o8 k2 h).2.2.2 rfl), hkeep k2 hB.k21 hB.k22 hk2, hB.s2]
      case g4 =>
        have e7 : nats (hs ++ [p'.st.length]) = nats hs ++ [AV.v (Value.int IntKind.i64 (a'.n : Int))] := by rw [han1]; simp [nats]
        rw [e7]
        simp only [List.length_append, List.length_cons, List.length_nil]
        exact .inr ⟨_, by omega, rfl, u1, by simp [nats]⟩
      case g5 =>
        have e8 : nats (ls ++ [min p.lp.length p'.lp.length]) = nats ls ++ [AV.v (Value.int IntKind.i64 ((min p.lp.length p'.lp.length : Nat) : Int))] := by simp [nats]
        rw [e8]
        simp only [List.length_append, List.length_cons, List.length_nil]
        refine .inr ⟨_, by omega, rfl, ?_, by simp [nats]⟩
        rw [u2 _ (by omega) (fun h => by have := hN1 _ h; omega), t1]
      case g6 =>
        intro j hj
        have hj : j ∈ [nx + 4 + 12 + 24 + 16 + 44 + 28] := hj
        simp only [List.mem_singleton] at hj
        subst hj
        refine ⟨by omega, fun h => by have := f4 _ h; omega, by omega, by omega, ?_⟩
        show _ ∉ [nx + 4 + 12 + 24 + 16 + 36]
        simp
      case g7 =>
        intro j hj
        have hj : j ∈ [nx + 4 + 12 + 24 + 16 + 36] := hj
        simp only [List.mem_singleton] at hj
        subst hj
        exact ⟨by omega, fun h => by have := f4 _ h; omega, by omega, by omega⟩
      cases hrp : runP r p' with
      | none =>
        rw [hrp] at this
        simp only [hrp]
        exact this
      | some w =>
        obtain ⟨p2, hs2, ls2⟩ := w
        rw [hrp] at this
        simp only [hrp]
        simpa only [List.append_assoc, List.cons_append, List.nil_append] using this
end
end Go.Proofs.YtkmnidbodlmaaaaDoor.Ev

/-
Code: the reference's term of code, with heights and levels.
-/
namespace Go.Proofs.YtkmnidbodlmaaaaDoor.Ev
section
set_option linter.unusedVariables false
set_option linter.unusedSimpArgs false
open Go Go.RowKit
set_option linter.unusedVariables false
set_option linter.unusedSimpArgs false
theorem text_list : ∀ t, (textT t).length ≤ 5 * (listT t).length
  | .dig c => by simp [textT, listT]
  | .var c => by simp [textT, listT]
  | .one s x => by have := text_list x; simp only [textT, listT, List.length_append, List.length_cons, List.length_nil]; omega
  | .two s x y => by have := text_list x; have := text_list y; simp only [textT, listT, List.length_append, List.length_cons, List.length_nil]; omega
  | .loop s v x y => by have := text_list x; have := text_list y; simp only [textT, listT, List.length_append, List.length_cons, List.length_nil]; omega
theorem adopt_nb (σ : Sto) (key : Nat) (x : T) (b : Bool) : adopt σ key (.t [.a (encN x), B b]) = some (.t [.a (encN x), B b], σ) := adopt_two (by simp only [closed, encN_closed]) rfl
theorem adopt_zb (σ : Sto) (key : Nat) (b : Bool) : adopt σ key (.t [.a zc, B b]) = some (.t [.a zc, B b], σ) := adopt_two rfl rfl
theorem zc_len : zc.length = 3 := rfl
theorem zc_leaf : zc.all leafOk = true := rfl
theorem T_specTermValid : TT 75 = some (Tryd.f75, bodyOf Tryd.f75) := by kernel_rfl
theorem specTermValid_ev (t : List UInt8) (hl : t.length < 4611686018427387904) : EE 75 [S t] = some (B (rdT t).isSome) := by
  refine EE_plain T_specTermValid (by decide) (Nat.le_of_ble_eq_true rfl) rfl ?_
  rw [show opt 75 = [] from rfl]
  simp only [bodyOf, Tryd.f75, SA]
  have h := l5Read_ev t hl
  cases hr : rdT t with
  | none =>
    rw [hr] at h
    simp only [h, adopt_zb, zc_len, zc_leaf, TMA, IA, PA, RA0, RA1, RA2, RA3, RA4, RA5, RA6, RA7, RA8, RA9, RA10, Nat.reduceAdd, Nat.reduceMul, Nat.reduceEqDiff, Nat.reduceLeDiff, Nat.reduceLT, Int.reduceToNat, Int.reduceLT, Int.reduceLE, Int.reduceEq, Int.reduceNeg, Int.reduceAdd, Int.reduceSub, Int.reduceMul, reduceIte]
    rfl
  | some x =>
    rw [hr] at h
    simp only [h, adopt_nb, TMA, IA, PA, RA0, RA1, RA2, RA3, RA4, RA5, RA6, RA7, RA8, RA9, RA10, Nat.reduceAdd, Nat.reduceMul, Nat.reduceEqDiff, Nat.reduceLeDiff, Nat.reduceLT, Int.reduceToNat, Int.reduceLT, Int.reduceLE, Int.reduceEq, Int.reduceNeg, Int.reduceAdd, Int.reduceSub, Int.reduceMul, reduceIte]
    rfl
def rs0 (E sz : Nat) : RS := ⟨false, E, sz, 0, []⟩
theorem rs0_ok (E sz : Nat) : rsOk (rs0 E sz) := ⟨by simp [rs0], rfl, fun _ => ⟨rfl, rfl⟩⟩
theorem br0 : BR ⟨[], []⟩ (rs0 42 3) (rs0 9 1) (rs0 3 1) :=
  ⟨⟨rs0_ok _ _, rs0_ok _ _, rs0_ok _ _, rfl, rfl, rfl, rfl, rfl, rfl, by decide, by decide, by decide⟩, rfl, rfl, rfl, rfl, rfl, rfl⟩
/-- What the reference's builder gives. -/
def buildR : Option (T × List Nat × List Nat) → AV
  | some (t, hs, ls) => .t [.a (encN t), .o 3 1 hs.length (nats hs), .o 3 1 ls.length (nats ls), B true]
  | none => .t [.a zeroN, .s true 0 [], .s true 0 [], B false]
theorem give4 {σ : Sto} {x y : AV} {i j n m E sz : Nat} {cs ds : List AV} (hx : closed x = true) (hy : closed y = true) (hi : σ i = some (.row E sz n cs)) (hj : σ j = some (.row E sz m ds)) (hc : closedL cs = true) (hd : closedL ds = true) (hne : i ≠ j) :
    giveAll σ [x, .w i 0 n, .w j 0 m, y] = some (.t [x, .o E sz n cs, .o E sz m ds, y]) := by
  unfold giveAll
  simp only [giveL, give1_closed hx, give1_closed hy, give1_w hi (Nat.le_refl _) hc, give1_w hj (Nat.le_refl _) hd, Option.bind_some, Option.map_some, List.nil_append, List.append_nil, tk, if_true]
  rw [if_pos ⟨by simpa using hne, by simp⟩]
theorem nats_closed (l : List Nat) : closedL (nats l) = true := by
  induction l with
  | nil => rfl
  | cons x l ih => simpa [nats, closedL, closed] using ih
theorem runP_n : ∀ {l : List (List UInt8)} {p q : PS} {hs ls : List Nat}, runP l p = some (q, hs, ls) → hs.length = l.length ∧ ls.length = l.length
  | [], p, q, hs, ls, h => by
    simp only [runP, Option.some.injEq, Prod.mk.injEq] at h
    obtain ⟨_, rfl, rfl⟩ := h
    exact ⟨rfl, rfl⟩
  | s :: l, p, q, hs, ls, h => by
    simp only [runP] at h
    split at h
    · split at h
      · rename_i h2
        simp only [Option.some.injEq, Prod.mk.injEq] at h
        obtain ⟨_, rfl, rfl⟩ := h
        obtain ⟨k1, k2⟩ := runP_n h2
        simp [k1, k2]
      · cases h
    · cases h
theorem l7Build_ev (code : List UInt8) (hl : code.length < 50000000) : EE 44 [S code] = some (buildR (specB code)) := by
  refine EE_plain T_l7Build (by decide) (Nat.le_of_ble_eq_true rfl) rfl ?_
  rw [show opt 44 = [] from rfl]
  simp only [bodyOf, Tryd.f44, SA]
  by_cases h200 : 200 < code.length
  · have hc : ((200 : Int) < (code.length : Int)) := by omega
    simp only [specB, h200, hc, buildR, RR, IA, PA, RA0, RA1, RA2, RA3, RA4, RA5, RA6, RA7, RA8, RA9, RA10, Nat.reduceAdd, Nat.reduceMul, Nat.reduceEqDiff, Nat.reduceLeDiff, Nat.reduceLT, Int.reduceToNat, Int.reduceLT, Int.reduceLE, Int.reduceEq, Int.reduceNeg, Int.reduceAdd, Int.reduceSub, Int.reduceMul, reduceIte]
    exact giveAll_two rfl
  · have hc : ¬ ((200 : Int) < (code.length : Int)) := by omega
    have hcut := l13Cut_ev code 32 (by omega)
    have hu : U 32 = .v (.int .u8 32) := rfl
    have hcl := cutL_len 32 code
    rw [hu] at hcut
    simp only [hc, hcut, strs_closed, RR, IA, PA, RA0, RA1, RA2, RA3, RA4, RA5, RA6, RA7, RA8, RA9, RA10, Nat.reduceAdd, Nat.reduceMul, Nat.reduceEqDiff, Nat.reduceLeDiff, Nat.reduceLT, Int.reduceToNat, Int.reduceLT, Int.reduceLE, Int.reduceEq, Int.reduceNeg, Int.reduceAdd, Int.reduceSub, Int.reduceMul, reduceIte]
    generalize hq : roundsE _ _ _ = q
    have key := fun hh => l7Build_loop 0 20 60 (cutL 32 code) (by omega) (cutL 32 code) 0 MX [] [] ⟨[], []⟩ (rs0 42 3) (rs0 9 1) (rs0 3 1) [.s true 0 [], .s true 0 [], .s true 0 []] [] _ _ _ q rfl (Nat.zero_le _) (lt_MX (by omega)) (Nat.le_refl _) (Nat.le_refl _) (Nat.le_refl _) (Nat.le_refl _) hh hq
    have hrw : ∀ σ, RwL σ [rs0 42 3, rs0 9 1, rs0 3 1] [.s true 0 [], .s true 0 [], .s true 0 []] [] := fun σ => .no (rs0_ok _ _) rfl (.no (rs0_ok _ _) rfl (.no (rs0_ok _ _) rfl .nil))
    have hnone : ∀ j ∈ own (.s true 0 []), False := fun j hj => by simp [own] at hj
    have hloop := key ⟨br0, ⟨Nat.le_refl _, trivial, fun t h => absurd h List.not_mem_nil⟩, rfl, rfl, hrw _, by simp, by decide, fun r h => absurd h List.not_mem_nil, rfl, rfl, by decide, by decide, List.not_mem_nil, rfl, rfl, lst_nil _ _ _ _, lst_nil _ _ _ _, fun j hj => (hnone j hj).elim, fun j hj => (hnone j hj).elim, rfl, rfl, by decide, by decide, List.not_mem_nil, by decide⟩
    clear key hq
    cases hrp : runP (cutL 32 code) ⟨[], []⟩ with
    | none =>
      rw [hrp] at hloop
      obtain ⟨e', σ', nx', rfl, h2, hs2, h3, h4, h5⟩ := hloop
      simp only [specB, h200, hrp, h2, hs2, h3, h4, h5, zeroN, buildR, RR, IA, PA, RA0, RA1, RA2, RA3, RA4, RA5, RA6, RA7, RA8, RA9, RA10, Nat.reduceAdd, Nat.reduceMul, Nat.reduceEqDiff, Nat.reduceLeDiff, Nat.reduceLT, Int.reduceToNat, Int.reduceLT, Int.reduceLE, Int.reduceEq, Int.reduceNeg, Int.reduceAdd, Int.reduceSub, Int.reduceMul, reduceIte]
      exact giveAll_two rfl
    | some w =>
      obtain ⟨p', hs, ls⟩ := w
      rw [hrp] at hloop
      obtain ⟨e', σ', nx', a, b, c, ds, Ls, rfl, hB⟩ := hloop
      simp only [List.nil_append] at hB
      have hbr := hB.br
      have ho := hbr.ok
      have h6 := hB.e6
      have hsb := hB.sb
      have h2 := hB.e2
      have hs2 := hB.s2
      have hst := hbr.an
      have hlp := hbr.bn
      obtain ⟨hcode, hlist⟩ := runP_code hrp ⟨Nat.le_refl _, trivial, fun t h => absurd h List.not_mem_nil⟩
      have hR := hB.rw
      obtain ⟨da, db, dc, La, Lb, Lc, rfl, rfl, ra, rb, rc⟩ := rw3 hR
      obtain ⟨st, lp⟩ := p'
      simp only at hst hlp
      by_cases hn1 : st.length = 1
      · have hd1 : ((a.n : Int) = 1) := by omega
        by_cases hl0 : lp = []
        · subst hl0
          obtain ⟨t, rfl⟩ : ∃ t, st = [t] := by
            match st, hn1 with
            | [t], _ => exact ⟨t, rfl⟩
          have hlt : ¬ ((0 : Int) < (b.n : Int)) := by rw [hlp]; simp
          have hw := hcode.hw t (by simp)
          have hlt2 : listT t = cutL 32 code := by simpa [codeP, allT] using hlist
          have htl := text_list t
          rw [hlt2] at htl
          have htx := l5Text_ev t hw (by omega)
          have htv := specTermValid_ev (textT t) (by omega)
          obtain ⟨rA, hab, rfl, rfl, haσ⟩ := ra.pos (by omega)
          have hac : a.cs = encN t := by rw [hbr.ac]; simp
          have hz2 : (0 : Int) < (a.n : Int) := by omega
          simp only [h6, hsb, h2, hs2, hd1, hlt, hz2, haσ, hac, ho.aS, htx, htv, len_rw rb, zeroN, TMA, RR, IA, PA, RA0, RA1, RA2, RA3, RA4, RA5, RA6, RA7, RA8, RA9, RA10, Nat.reduceAdd, Nat.reduceMul, Nat.reduceEqDiff, Nat.reduceLeDiff, Nat.reduceLT, Int.reduceToNat, Int.reduceLT, Int.reduceLE, Int.reduceEq, Int.reduceNeg, Int.reduceAdd, Int.reduceSub, Int.reduceMul, reduceIte]
          by_cases h80 : (textT t).length ≤ 80
          · have hrd := rdT_of hw h80
            have hne : cutL 32 code ≠ [] := by obtain ⟨x, y, e⟩ := cutL_cons 32 code; rw [e]; simp
            obtain ⟨n1, n2⟩ := runP_n hrp
            have n3 : (cutL 32 code).length ≠ 0 := by simpa using hne
            have e1 : specB code = some (t, hs, ls) := by
              unfold specB
              rw [if_neg h200, hrp]
              simp only
              rw [if_pos h80]
            rw [hrd, e1]
            simp only [Option.isSome_some, Bool.not_true, Bool.false_eq_true, if_false, buildR]
            rcases hB.h7 with ⟨g1, g2, g3⟩ | ⟨i7, g1, g2, g3, g4⟩
            · omega
            rcases hB.h8 with ⟨k1, k2, k3⟩ | ⟨i8, k1, k2, k3, k4⟩
            · omega
            have q7 := hB.o7 i7 (by rw [g2]; simp [own])
            have q8 := hB.o8 i8 (by rw [k2]; simp [own])
            rw [g2, k2]
            refine give4 (by simp only [closed, encN_closed]) rfl ?_ ?_ (nats_closed _) (nats_closed _) ?_
            · rw [upd, if_neg (fun h => q7.2.2.2.1 h)]; exact g3
            · rw [upd, if_neg (fun h => q8.2.2.2 h)]; exact k3
            · intro h
              subst h
              exact q7.2.2.2.2 (by rw [k2]; simp [own])
          · have hrd : rdT (textT t) = none := by unfold rdT; rw [if_pos (by omega)]
            have e1 : specB code = none := by
              unfold specB
              rw [if_neg h200, hrp]
              simp only
              rw [if_neg h80]
            rw [hrd, e1]
            simp only [Option.isSome_none, Bool.not_false, if_true, buildR]
            exact giveAll_two rfl
        · have hlt : ((0 : Int) < (b.n : Int)) := by
            have : lp.length ≠ 0 := by simpa using hl0
            omega
          have e1 : specB code = none := by
            unfold specB
            rw [if_neg h200, hrp]
            obtain ⟨t, rfl⟩ : ∃ t, st = [t] := by
              match st, hn1 with
              | [t], _ => exact ⟨t, rfl⟩
            cases lp with
            | nil => exact absurd rfl hl0
            | cons q l => rfl
          rw [e1]
          simp only [h6, hsb, h2, hs2, hd1, hlt, buildR, len_rw ra, len_rw rb, zeroN, TMA, RR, IA, PA, RA0, RA1, RA2, RA3, RA4, RA5, RA6, RA7, RA8, RA9, RA10, Nat.reduceAdd, Nat.reduceMul, Nat.reduceEqDiff, Nat.reduceLeDiff, Nat.reduceLT, Int.reduceToNat, Int.reduceLT, Int.reduceLE, Int.reduceEq, Int.reduceNeg, Int.reduceAdd, Int.reduceSub, Int.reduceMul, reduceIte]
          exact giveAll_two rfl
      · have hd1 : ¬ ((a.n : Int) = 1) := by omega
        have e1 : specB code = none := by
          unfold specB
          rw [if_neg h200, hrp]
          match st, hn1 with
          | [], _ => rfl
          | x :: y :: l, _ => rfl
        rw [e1]
        simp only [h6, hsb, h2, hs2, hd1, buildR, len_rw ra, len_rw rb, zeroN, TMA, RR, IA, PA, RA0, RA1, RA2, RA3, RA4, RA5, RA6, RA7, RA8, RA9, RA10, Nat.reduceAdd, Nat.reduceMul, Nat.reduceEqDiff, Nat.reduceLeDiff, Nat.reduceLT, Int.reduceToNat, Int.reduceLT, Int.reduceLE, Int.reduceEq, Int.reduceNeg, Int.reduceAdd, Int.reduceSub, Int.reduceMul, reduceIte]
        exact giveAll_two rfl
end
end Go.Proofs.YtkmnidbodlmaaaaDoor.Ev

/-
Code: what the reference says of code.
-/
namespace Go.Proofs.YtkmnidbodlmaaaaDoor.Ev
section
set_option linter.unusedVariables false
set_option linter.unusedSimpArgs false
open Go Go.RowKit
set_option linter.unusedVariables false
set_option linter.unusedSimpArgs false
theorem adopt4 {σ : Sto} {key : Nat} {x y : AV} {n m E sz : Nat} {cs ds : List AV} (hx : closed x = true) (hy : closed y = true) (hc : closedL cs = true) (hd : closedL ds = true) :
    adopt σ key (.t [x, .o E sz n cs, .o E sz m ds, y]) = some (.t [x, .w (key + 1) 0 n, .w (key + 1 + 1) 0 m, y], upd (upd σ (key + 1) (some (.row E sz n cs))) (key + 1 + 1) (some (.row E sz m ds))) := by
  simp only [adopt]
  rw [if_neg (by simp [closedL, closed])]
  simp only [List.length_cons, List.length_nil, adoptL, adopt1_closed hx, adopt1_closed hy, adopt1_o hc, adopt1_o hd, Option.bind_some, Option.map_some]
  rfl
theorem T_specTermOf : TT 13 = some (Tryd.f13, bodyOf Tryd.f13) := by kernel_rfl
theorem adopt_b4 (σ : Sto) (key : Nat) (t : T) (hs ls : List Nat) : adopt σ key (.t [.a (encN t), .o 3 1 hs.length (nats hs), .o 3 1 ls.length (nats ls), B true]) = some (.t [.a (encN t), .w (key + 1) 0 hs.length, .w (key + 1 + 1) 0 ls.length, B true], upd (upd σ (key + 1) (some (.row 3 1 hs.length (nats hs)))) (key + 1 + 1) (some (.row 3 1 ls.length (nats ls)))) :=
  adopt4 (by simp only [closed, encN_closed]) rfl (nats_closed _) (nats_closed _)
theorem adopt_z4 (σ : Sto) (key : Nat) : adopt σ key (.t [.a zeroN, .s true 0 [], .s true 0 [], B false]) = some (.t [.a zeroN, .s true 0 [], .s true 0 [], B false], σ) := rfl
theorem zeroN_len : zeroN.length = 3 := rfl
theorem zeroN_leaf : zeroN.all leafOk = true := rfl
theorem specB_wf {code : List UInt8} {t : T} {hs ls : List Nat} (h : specB code = some (t, hs, ls)) : WF t ∧ (textT t).length ≤ 80 := by
  obtain ⟨_, hw, _, _, hr⟩ := spec_impl h
  exact ⟨hw, (rdT_wf hr).2.2⟩
theorem specTermOf_ev (code : List UInt8) (hl : code.length < 50000000) : EE 13 [S code] = some (match specB code with | some (t, _, _) => .t [S (textT t), B true] | none => .t [S [], B false]) := by
  refine EE_plain T_specTermOf (by decide) (Nat.le_of_ble_eq_true rfl) rfl ?_
  rw [show opt 13 = [] from rfl]
  simp only [bodyOf, Tryd.f13, SA]
  have h := l7Build_ev code hl
  cases hs : specB code with
  | none =>
    rw [hs] at h
    simp only [buildR] at h
    simp only [h, adopt_z4, zeroN_len, zeroN_leaf, RR, IA, PA, RA0, RA1, RA2, RA3, RA4, RA5, RA6, RA7, RA8, RA9, RA10, Nat.reduceAdd, Nat.reduceMul, Nat.reduceEqDiff, Nat.reduceLeDiff, Nat.reduceLT, Int.reduceToNat, Int.reduceLT, Int.reduceLE, Int.reduceEq, Int.reduceNeg, Int.reduceAdd, Int.reduceSub, Int.reduceMul, reduceIte]
  | some w =>
    obtain ⟨t, hh, lv⟩ := w
    rw [hs] at h
    simp only [buildR] at h
    obtain ⟨hw, h80⟩ := specB_wf hs
    have htx := l5Text_ev t hw (by omega)
    simp only [h, htx, adopt_b4, TMA, RR, IA, PA, RA0, RA1, RA2, RA3, RA4, RA5, RA6, RA7, RA8, RA9, RA10, Nat.reduceAdd, Nat.reduceMul, Nat.reduceEqDiff, Nat.reduceLeDiff, Nat.reduceLT, Int.reduceToNat, Int.reduceLT, Int.reduceLE, Int.reduceEq, Int.reduceNeg, Int.reduceAdd, Int.reduceSub, Int.reduceMul, reduceIte]
theorem T_specCodeValid : TT 15 = some (Tryd.f15, bodyOf Tryd.f15) := by kernel_rfl
theorem specCodeValid_ev (code : List UInt8) (hl : code.length < 50000000) : EE 15 [S code] = some (B (specB code).isSome) := by
  refine EE_plain T_specCodeValid (by decide) (Nat.le_of_ble_eq_true rfl) rfl ?_
  rw [show opt 15 = [] from rfl]
  simp only [bodyOf, Tryd.f15, SA]
  have h := specTermOf_ev code hl
  cases hs : specB code with
  | none =>
    rw [hs] at h
    simp only at h
    simp only [h, adopt_two (show closed (S []) = true from rfl) (show closed (B false) = true from rfl), RR, IA, PA, RA0, RA1, RA2, RA3, RA4, RA5, RA6, RA7, RA8, RA9, RA10, Nat.reduceAdd, Nat.reduceMul, Nat.reduceEqDiff, Nat.reduceLeDiff, Nat.reduceLT, Int.reduceToNat, Int.reduceLT, Int.reduceLE, Int.reduceEq, Int.reduceNeg, Int.reduceAdd, Int.reduceSub, Int.reduceMul, reduceIte]
    rfl
  | some w =>
    obtain ⟨t, hh, lv⟩ := w
    rw [hs] at h
    simp only at h
    simp only [h, adopt_two (show closed (S (textT t)) = true from rfl) (show closed (B true) = true from rfl), RR, IA, PA, RA0, RA1, RA2, RA3, RA4, RA5, RA6, RA7, RA8, RA9, RA10, Nat.reduceAdd, Nat.reduceMul, Nat.reduceEqDiff, Nat.reduceLeDiff, Nat.reduceLT, Int.reduceToNat, Int.reduceLT, Int.reduceLE, Int.reduceEq, Int.reduceNeg, Int.reduceAdd, Int.reduceSub, Int.reduceMul, reduceIte]
    rfl
theorem T_specHeightsOf : TT 17 = some (Tryd.f17, bodyOf Tryd.f17) := by kernel_rfl
theorem specHeightsOf_ev (code : List UInt8) (hl : code.length < 50000000) : EE 17 [S code] = some (match specB code with | some (_, hs, _) => .t [.o 3 1 hs.length (nats hs), B true] | none => .t [.s true 0 [], B false]) := by
  refine EE_plain T_specHeightsOf (by decide) (Nat.le_of_ble_eq_true rfl) rfl ?_
  rw [show opt 17 = [] from rfl]
  simp only [bodyOf, Tryd.f17, SA]
  have h := l7Build_ev code hl
  cases hs : specB code with
  | none =>
    rw [hs] at h
    simp only [buildR] at h
    simp only [h, adopt_z4, zeroN_len, zeroN_leaf, RR, IA, PA, RA0, RA1, RA2, RA3, RA4, RA5, RA6, RA7, RA8, RA9, RA10, Nat.reduceAdd, Nat.reduceMul, Nat.reduceEqDiff, Nat.reduceLeDiff, Nat.reduceLT, Int.reduceToNat, Int.reduceLT, Int.reduceLE, Int.reduceEq, Int.reduceNeg, Int.reduceAdd, Int.reduceSub, Int.reduceMul, reduceIte]
  | some w =>
    obtain ⟨t, hh, lv⟩ := w
    rw [hs] at h
    simp only [buildR] at h
    simp only [h, adopt_b4, TMA, RR, IA, PA, RA0, RA1, RA2, RA3, RA4, RA5, RA6, RA7, RA8, RA9, RA10, Nat.reduceAdd, Nat.reduceMul, Nat.reduceEqDiff, Nat.reduceLeDiff, Nat.reduceLT, Int.reduceToNat, Int.reduceLT, Int.reduceLE, Int.reduceEq, Int.reduceNeg, Int.reduceAdd, Int.reduceSub, Int.reduceMul, reduceIte]
    exact give_row2 (by simp [upd]) (nats_closed _) rfl
theorem T_specLevelsAt : TT 22 = some (Tryd.f22, bodyOf Tryd.f22) := by kernel_rfl
theorem specLevelsAt_ev (code : List UInt8) (hl : code.length < 50000000) : EE 22 [S code] = some (match specB code with | some (_, _, ls) => .t [.o 3 1 ls.length (nats ls), B true] | none => .t [.s true 0 [], B false]) := by
  refine EE_plain T_specLevelsAt (by decide) (Nat.le_of_ble_eq_true rfl) rfl ?_
  rw [show opt 22 = [] from rfl]
  simp only [bodyOf, Tryd.f22, SA]
  have h := l7Build_ev code hl
  cases hs : specB code with
  | none =>
    rw [hs] at h
    simp only [buildR] at h
    simp only [h, adopt_z4, zeroN_len, zeroN_leaf, RR, IA, PA, RA0, RA1, RA2, RA3, RA4, RA5, RA6, RA7, RA8, RA9, RA10, Nat.reduceAdd, Nat.reduceMul, Nat.reduceEqDiff, Nat.reduceLeDiff, Nat.reduceLT, Int.reduceToNat, Int.reduceLT, Int.reduceLE, Int.reduceEq, Int.reduceNeg, Int.reduceAdd, Int.reduceSub, Int.reduceMul, reduceIte]
  | some w =>
    obtain ⟨t, hh, lv⟩ := w
    rw [hs] at h
    simp only [buildR] at h
    simp only [h, adopt_b4, TMA, RR, IA, PA, RA0, RA1, RA2, RA3, RA4, RA5, RA6, RA7, RA8, RA9, RA10, Nat.reduceAdd, Nat.reduceMul, Nat.reduceEqDiff, Nat.reduceLeDiff, Nat.reduceLT, Int.reduceToNat, Int.reduceLT, Int.reduceLE, Int.reduceEq, Int.reduceNeg, Int.reduceAdd, Int.reduceSub, Int.reduceMul, reduceIte]
    exact give_row2 (by simp [upd]) (nats_closed _) rfl
theorem T_specInstructionsOf : TT 24 = some (Tryd.f24, bodyOf Tryd.f24) := by kernel_rfl
theorem specInstructionsOf_ev (code : List UInt8) (hl : code.length < 50000000) : EE 24 [S code] = some (if (specB code).isSome = true then .o 9 1 (cutL 32 code).length (strs (cutL 32 code)) else .s true 0 []) := by
  refine EE_plain T_specInstructionsOf (by decide) (Nat.le_of_ble_eq_true rfl) rfl ?_
  rw [show opt 24 = [] from rfl]
  simp only [bodyOf, Tryd.f24, SA]
  have h := specCodeValid_ev code hl
  have hcut := l13Cut_ev code 32 (by omega)
  have hu : U 32 = .v (.int .u8 32) := rfl
  rw [hu] at hcut
  cases hs : (specB code).isSome
  · rw [hs] at h
    simp only [h, RR, IA, PA, RA0, RA1, RA2, RA3, RA4, RA5, RA6, RA7, RA8, RA9, RA10, Nat.reduceAdd, Nat.reduceMul, Nat.reduceEqDiff, Nat.reduceLeDiff, Nat.reduceLT, Int.reduceToNat, Int.reduceLT, Int.reduceLE, Int.reduceEq, Int.reduceNeg, Int.reduceAdd, Int.reduceSub, Int.reduceMul, reduceIte]
  · rw [hs] at h
    simp only [h, hcut, strs_closed, RR, IA, PA, RA0, RA1, RA2, RA3, RA4, RA5, RA6, RA7, RA8, RA9, RA10, Nat.reduceAdd, Nat.reduceMul, Nat.reduceEqDiff, Nat.reduceLeDiff, Nat.reduceLT, Int.reduceToNat, Int.reduceLT, Int.reduceLE, Int.reduceEq, Int.reduceNeg, Int.reduceAdd, Int.reduceSub, Int.reduceMul, reduceIte]
    exact give_row (by simp [upd]) (strs_closed _)
end
end Go.Proofs.YtkmnidbodlmaaaaDoor.Ev

/-
Code: the implementation's code of a term.
-/
namespace Go.Proofs.YtkmnidbodlmaaaaDoor.Ev
section
set_option linter.unusedVariables false
set_option linter.unusedSimpArgs false
open Go Go.RowKit
set_option linter.unusedVariables false
set_option linter.unusedSimpArgs false
theorem joinTail_len : ∀ (l : List (List UInt8)), (∀ y ∈ l, y.length ≤ 2) → (Lib.joinTail [32] l).length ≤ 3 * l.length
  | [], _ => by simp [Lib.joinTail]
  | x :: l, h => by
    have h1 := joinTail_len l fun y hy => h y (by simp [hy])
    have h2 := h x (by simp)
    have e : Lib.joinTail [32] (x :: l) = 32 :: (x ++ Lib.joinTail [32] l) := by simp [Lib.joinTail]
    rw [e]
    simp only [List.length_cons, List.length_append]
    omega
theorem joinS_len (l : List (List UInt8)) (h : ∀ y ∈ l, y.length ≤ 2) : (joinS l).length ≤ 3 * l.length := by
  cases l with
  | nil => simp [joinS, Lib.join]
  | cons x l =>
    have h1 := joinTail_len l fun y hy => h y (by simp [hy])
    have h2 := h x (by simp)
    rw [joinS, Lib.join_cons]
    simp only [List.length_cons, List.length_append]
    omega
theorem list_short : ∀ t, ∀ y ∈ listT t, y.length ≤ 2 := by
  intro t
  induction t with
  | dig c => intro y hy; simp only [listT, List.mem_singleton] at hy; subst hy; simp
  | var c => intro y hy; simp only [listT, List.mem_singleton] at hy; subst hy; simp
  | one s x ih =>
    intro y hy
    simp only [listT, List.mem_append, List.mem_singleton] at hy
    rcases hy with hy | rfl
    · exact ih y hy
    · simp
  | two s x y ihx ihy =>
    intro z hz
    simp only [listT, List.mem_append, List.mem_singleton] at hz
    rcases hz with (hz | hz) | rfl
    · exact ihx z hz
    · exact ihy z hz
    · simp
  | loop s v x y ihx ihy =>
    intro z hz
    simp only [listT, List.mem_append, List.mem_singleton] at hz
    rcases hz with ((hz | rfl) | hz) | rfl
    · exact ihx z hz
    · simp
    · exact ihy z hz
    · simp
theorem join_ev (ex : Bool) (l : List (List UInt8)) (h1 : l.length ≤ 140737488355328) (h2 : (joinS l).length ≤ 140737488355328) : EE 60 [.s ex l.length (strs l), S [32]] = some (S (joinS l)) := by
  refine EE_hand ?_
  simp only [hand, handJ, unSL_strs, Option.bind_some, if_true, true_and]
  rw [if_pos ⟨h1, by simpa [joinS] using h2⟩]
  rfl
theorem adopt_enc (σ : Sto) (key : Nat) (x : T) : adopt σ key (encP x) = some (encP x, σ) := by
  have h := encP_closed x
  cases x <;> exact adopt_p (by simpa only [encP, closed] using h)
theorem T_implCodeOf : TT 34 = some (Tryd.f34, bodyOf Tryd.f34) := by kernel_rfl
theorem implCodeOf_ev (t : List UInt8) (hl : t.length < 1000000000) : EE 34 [S t] = some (match codeT t with | some c => .t [S c, B true] | none => .t [S [], B false]) := by
  refine EE_plain T_implCodeOf (by decide) (Nat.le_of_ble_eq_true rfl) rfl ?_
  rw [show opt 34 = [] from rfl]
  simp only [bodyOf, Tryd.f34, SA]
  have h := termOf_ev t (by omega)
  cases hr : rdT t with
  | none =>
    rw [hr] at h
    simp only at h
    simp only [h, codeT, hr, Option.map_none, TMA, RR, IA, PA, RA0, RA1, RA2, RA3, RA4, RA5, RA6, RA7, RA8, RA9, RA10, Nat.reduceAdd, Nat.reduceMul, Nat.reduceEqDiff, Nat.reduceLeDiff, Nat.reduceLT, Int.reduceToNat, Int.reduceLT, Int.reduceLE, Int.reduceEq, Int.reduceNeg, Int.reduceAdd, Int.reduceSub, Int.reduceMul, reduceIte]
  | some x =>
    rw [hr] at h
    simp only at h
    obtain ⟨hw, h80, _⟩ := rdT_wf hr
    have hi := instructions_ev x hw (by omega)
    have hjl := joinS_len (listT x) (list_short x)
    have hj := join_ev false (listT x) (by omega) (by omega)
    simp only [h, hi, codeT, hr, adopt_enc, Option.map_some, strs_closed, encP_closed, TMA, RR, IA, PA, RA0, RA1, RA2, RA3, RA4, RA5, RA6, RA7, RA8, RA9, RA10, Nat.reduceAdd, Nat.reduceMul, Nat.reduceEqDiff, Nat.reduceLeDiff, Nat.reduceLT, Int.reduceToNat, Int.reduceLT, Int.reduceLE, Int.reduceEq, Int.reduceNeg, Int.reduceAdd, Int.reduceSub, Int.reduceMul, reduceIte]
    rw [call0_w (r := .string ⟨(joinS (listT x)).toArray⟩) (by rfl) (by rfl) (by rw [strs_len, Nat.mul_one]) (strs_closed _) (by rfl) (by exact hj)]
    simp only [RR, IA, PA, RA0, RA1, RA2, RA3, RA4, RA5, RA6, RA7, RA8, RA9, RA10, Nat.reduceAdd, Nat.reduceMul, Nat.reduceEqDiff, Nat.reduceLeDiff, Nat.reduceLT, Int.reduceToNat, Int.reduceLT, Int.reduceLE, Int.reduceEq, Int.reduceNeg, Int.reduceAdd, Int.reduceSub, Int.reduceMul, reduceIte]
end
end Go.Proofs.YtkmnidbodlmaaaaDoor.Ev

/-
Code: the implementation's stack of terms; slices.Clone of its end.
-/
namespace Go.Proofs.YtkmnidbodlmaaaaDoor.Ev
section
set_option linter.unusedVariables false
set_option linter.unusedSimpArgs false
open Go Go.RowKit
set_option linter.unusedVariables false
set_option linter.unusedSimpArgs false
/-- Cells that are terms. -/
inductive AllP : List AV → List T → Prop
  | nil : AllP [] []
  | cons {a : AV} {t : T} {xs : List AV} {ts : List T} (h : IsP a t) (k : AllP xs ts) : AllP (a :: xs) (t :: ts)
theorem AllP.len {xs : List AV} {ts : List T} (h : AllP xs ts) : xs.length = ts.length := by
  induction h with
  | nil => rfl
  | cons h k ih => simp [ih]
theorem AllP.closed {xs : List AV} {ts : List T} (h : AllP xs ts) : closedL xs = true := by
  induction h with
  | nil => rfl
  | cons h k ih => simp only [closedL, h.closed, ih, Bool.and_self]
theorem AllP.leaf {xs : List AV} {ts : List T} (h : AllP xs ts) : xs.all leafOk = true := by
  induction h with
  | nil => rfl
  | cons h k ih => simp only [List.all_cons, h.leaf.2, ih, Bool.and_self]
theorem AllP.app {xs ys : List AV} {ts us : List T} (h : AllP xs ts) (k : AllP ys us) : AllP (xs ++ ys) (ts ++ us) := by
  induction h with
  | nil => exact k
  | cons h _ ih => exact .cons h ih
theorem AllP.take {xs : List AV} {ts : List T} (h : AllP xs ts) : ∀ n, AllP (xs.take n) (ts.take n) := by
  induction h with
  | nil => intro n; simp; exact .nil
  | cons h k ih =>
    intro n
    cases n with
    | zero => exact .nil
    | succ n => exact .cons h (ih n)
theorem AllP.drop {xs : List AV} {ts : List T} (h : AllP xs ts) : ∀ n, AllP (xs.drop n) (ts.drop n) := by
  induction h with
  | nil => intro n; simp; exact .nil
  | cons h k ih =>
    intro n
    cases n with
    | zero => exact .cons h k
    | succ n => exact ih n
/-- A term that is being made: an object whose parts are a row. -/
structure Obj1 (σ : Sto) (k k' : Nat) (t : T) where
  s : List UInt8
  v : List UInt8
  m : Nat
  pc : List AV
  hk : σ k = some (.ob 50 [S s, S v, .w k' 0 m])
  hk' : σ k' = some (.row 48 1 m pc)
  hc : closedL pc = true
  hl : pc.length = m
  hp : IsP (.p [S s, S v, .s false m pc]) t
theorem deep_ob {σ : Sto} {k off T : Nat} {cs : List AV} (d : Nat) (h : σ k = some (.ob T cs)) : deep σ (d + 1) (.r k off) = (deepC (deep σ d) cs).map fun (ds, is) => (.p (ds.drop off), k :: is) := by simp only [deep, h]
theorem deep_fz {σ : Sto} {k off : Nat} {cs : List AV} (d : Nat) (h : σ k = some (.fz cs)) (hc : closedL cs = true) (hn : cs ≠ []) : deep σ (d + 1) (.r k off) = some (.p (cs.drop off), []) := by
  simp only [deep, h]
  rw [if_pos ⟨hc, hn⟩]
def Obj1.ptr {σ : Sto} {k k' : Nat} {t : T} (o : Obj1 σ k k' t) : AV := .p [S o.s, S o.v, .s false o.m o.pc]
theorem Obj1.deep {σ : Sto} {k k' : Nat} {t : T} (o : Obj1 σ k k' t) (d : Nat) : Ev.deep σ (d + 3) (.r k 0) = some (o.ptr, [k, k']) := by
  have h1 : Ev.deep σ (d + 2) (.w k' 0 o.m) = some (.s false o.m o.pc, [k']) := by
    rw [deep_w (d + 1) o.hk' (by have := o.hl; omega) o.hc, List.drop_zero, List.take_of_length_le (by have := o.hl; omega)]
  have h2 : ∀ x : List UInt8, Ev.deep σ (d + 2) (S x) = some (S x, []) := fun x => rfl
  have h3 : deepC (Ev.deep σ (d + 2)) [S o.s, S o.v, .w k' 0 o.m] = some ([S o.s, S o.v, .s false o.m o.pc], [k']) := by
    simp only [deepC, h1, h2, Option.bind_some, Option.map_some, List.nil_append, List.append_nil]
  rw [deep_ob (d + 2) o.hk]
  simp only [h3, Option.map_some]
  rfl
theorem deepC_app (f : AV → Option (AV × List Nat)) : ∀ (xs ys : List AV) {xs' ys' : List AV} {is js : List Nat}, deepC f xs = some (xs', is) → deepC f ys = some (ys', js) → deepC f (xs ++ ys) = some (xs' ++ ys', is ++ js)
  | [], ys, xs', ys', is, js, h, k => by
    simp only [deepC, Option.some.injEq, Prod.mk.injEq] at h
    obtain ⟨rfl, rfl⟩ := h
    simpa using k
  | x :: xs, ys, xs', ys', is, js, h, k => by
    simp only [deepC] at h
    obtain ⟨⟨y, i1⟩, h1, h2⟩ := Option.bind_eq_some_iff.1 h
    obtain ⟨⟨ys1, i2⟩, h3, h4⟩ := Option.map_eq_some_iff.1 h2
    simp only [Prod.mk.injEq] at h4
    obtain ⟨rfl, rfl⟩ := h4
    have := deepC_app f xs ys h3 k
    simp only [List.cons_append, deepC, h1, Option.bind_some, this, Option.map_some, List.append_assoc]
/-- The store behind slices.Clone: the object is told for good. -/
def cloneS (σ : Sto) (key id k k' N n : Nat) (ds cs : List AV) : Sto :=
  upd (upd (killL (frz σ 8 [k, k']) [id]) id (some (.row 48 1 N ds))) key (some (.row 48 1 n cs))
theorem call_clone {pf' : FuncId → Nat} {σ : Sto} {key id lo n k k' : Nat} {t : T} {cl : List AV} (hp : pf' 50 = 2) (o : Obj1 σ k k' t) (hcl : closedL cl = true) (hcf : cl.all leafOk = true) (hσ : σ id = some (.row 48 1 (cl.length + 1) (cl ++ [.r k 0])))
    (h1 : id ≠ k) (h2 : id ≠ k') (h3 : k ≠ k') (hln : lo + n ≤ cl.length + 1) (hn : n ≤ 1000000) :
    callOp EE pf' σ key 50 [.w id lo n] = some (.w key 0 n, cloneS σ key id k k' (cl.length + 1) n (cl ++ [o.ptr]) (((cl ++ [o.ptr]).drop lo).take n)) := by
  have hpc : closed o.ptr = true := o.hp.closed
  have hpl : leafOk o.ptr = true := o.hp.leaf.2
  have d1 : deepC (Ev.deep σ 8) (cl ++ [.r k 0]) = some (cl ++ [o.ptr], [k, k']) := by
    refine deepC_app _ _ _ (is := []) (js := [k, k']) (deepL_closed 8 hcl) ?_
    simp only [deepC, o.deep 5, Option.bind_some, Option.map_some, List.append_nil]
  have e1 : needs σ [.w id lo n] = [k, k'] := by
    simp only [needs, need, hσ, d1, List.append_nil]
  have e2 : frz0 σ [k, k'] = frz σ 8 [k, k'] := rfl
  have f1 : frz σ 8 [k, k'] id = some (.row 48 1 (cl.length + 1) (cl ++ [.r k 0])) := by
    unfold frz
    rw [if_neg (by simp [h1, h2])]
    exact hσ
  have f2 : frz σ 8 [k, k'] k = some (.fz [S o.s, S o.v, .s false o.m o.pc]) := by
    unfold frz
    rw [if_pos (by simp), o.hk]
    have h1 : Ev.deep σ 8 (.w k' 0 o.m) = some (.s false o.m o.pc, [k']) := by
      rw [deep_w 7 o.hk' (by have := o.hl; omega) o.hc, List.drop_zero, List.take_of_length_le (by have := o.hl; omega)]
    have h2 : ∀ x : List UInt8, Ev.deep σ 8 (S x) = some (S x, []) := fun x => rfl
    simp only [Option.bind_some, Slot.cells, deepC, h1, h2, Option.map_some, List.nil_append, List.append_nil]
    simp
  have d2 : deepC (Ev.deep (frz σ 8 [k, k']) 8) (cl ++ [.r k 0]) = some (cl ++ [o.ptr], []) := by
    refine deepC_app _ _ _ (is := []) (js := []) (deepL_closed 8 hcl) ?_
    have h4 : Ev.deep (frz σ 8 [k, k']) 8 (.r k 0) = some (o.ptr, []) := by
      rw [deep_fz 7 f2 (by simpa only [Obj1.ptr, closed] using hpc) (by simp)]
      rfl
    simp only [deepC, h4, Option.bind_some, Option.map_some, List.append_nil]
  have hlen : (cl ++ [o.ptr]).length = cl.length + 1 := by simp
  have hE : EE 50 [.t [.v (.bool false), ni lo, ni n, .o 48 1 (cl.length + 1) (cl ++ [o.ptr])]] = some (.t [.o 48 1 n (((cl ++ [o.ptr]).drop lo).take n), .t [.t [.v (.bool false), ni lo, ni n, .o 48 1 (cl.length + 1) (cl ++ [o.ptr])]]]) := by
    refine EE_hand ?_
    simp only [hand]
    unfold handC
    rw [if_pos rfl]
    simp only [ni]
    rw [if_pos ⟨trivial, trivial, by omega, by omega, by simp only [List.all_append, hcf, List.all_cons, hpl, List.all_nil, Bool.and_self], by simp only [Int.toNat_natCast]; omega, by simp only [Int.toNat_natCast]; omega⟩]
    simp only [Int.toNat_natCast]
  have hcc : closedL (((cl ++ [o.ptr]).drop lo).take n) = true := by
    have hc : closedL (cl ++ [o.ptr]) = true := by simp only [closedL_append, hcl, closedL, hpc, Bool.and_self]
    have e : cl ++ [o.ptr] = (cl ++ [o.ptr]).take lo ++ (((cl ++ [o.ptr]).drop lo).take n ++ ((cl ++ [o.ptr]).drop lo).drop n) := by rw [List.take_append_drop, List.take_append_drop]
    rw [e, closedL_append, closedL_append, Bool.and_eq_true, Bool.and_eq_true] at hc
    exact hc.2.1
  rw [call2_eq hp, e1, e2]
  have e3 : deepC (pack1 (frz σ 8 [k, k'])) [.w id lo n] = some ([.t [.v (.bool false), ni lo, ni n, .o 48 1 (cl.length + 1) (cl ++ [o.ptr])]], [id]) := by
    simp only [deepC, pack1, f1, d2, Option.bind_some, if_true, Option.map_some, List.append_nil]
  rw [e3]
  simp only [Option.bind_some, lend1]
  rw [if_pos (by simp), hE]
  simp only [Option.bind_some, lend2, e1, e2, back, ni]
  rw [if_pos (by simp [room])]
  rw [adopt_o hcc]
  rfl
end
end Go.Proofs.YtkmnidbodlmaaaaDoor.Ev

/-
Code: the implementation's loop over instructions.
-/
namespace Go.Proofs.YtkmnidbodlmaaaaDoor.Ev
section
set_option linter.unusedVariables false
set_option linter.unusedSimpArgs false
open Go Go.RowKit
set_option linter.unusedVariables false
set_option linter.unusedSimpArgs false
theorem T_implTermOf : TT 14 = some (Tryd.f14, bodyOf Tryd.f14) := by kernel_rfl
/-- The front of a row. -/
def LsP (σ : Sto) (nx E sz : Nat) (v : AV) (n : Nat) (cs : List AV) : Prop :=
  (v = .s true 0 [] ∧ n = 0 ∧ cs = []) ∨ ∃ id n' cs', id < nx ∧ v = .w id 0 n ∧ σ id = some (.row E sz n' cs') ∧ cs'.length = n' * sz ∧ n ≤ n' ∧ cs'.take (n * sz) = cs
def StkOk (σ : Sto) (v : AV) (st : List T) (ids : List Nat) : Prop :=
  (v = .s true 0 [] ∧ st = [] ∧ ids = []) ∨ ∃ id k k' cl t r, ∃ o : Obj1 σ k k' t, st = t :: r ∧ v = .w id 0 (r.length + 1) ∧ σ id = some (.row 48 1 (r.length + 1) (cl ++ [.r k 0])) ∧ AllP cl r.reverse ∧ ids = [id, k, k'] ∧ id ≠ k ∧ id ≠ k' ∧ k ≠ k'
def opS (op : List (UInt8 × UInt8)) : List (List UInt8) := op.reverse.map fun q => [q.1, q.2]
theorem opS_len (op : List (UInt8 × UInt8)) : (opS op).length = op.length := by simp [opS]
theorem opS_cons (q : UInt8 × UInt8) (op : List (UInt8 × UInt8)) : opS (q :: op) = opS op ++ [[q.1, q.2]] := by simp [opS]
theorem LsP.n {σ : Sto} {nx E sz n : Nat} {v : AV} {cs : List AV} (h : LsP σ nx E sz v n cs) : ∀ i ∈ own v, i < nx := by
  intro i hi
  rcases h with ⟨rfl, h⟩ | ⟨id, n', cs', h1, rfl, h2⟩
  · simp [own] at hi
  · simp only [own, List.mem_singleton] at hi
    omega
theorem LsP.frame {σ τ : Sto} {nx nx' E sz n : Nat} {v : AV} {cs : List AV} (h : LsP σ nx E sz v n cs) (hs : ∀ i ∈ own v, τ i = σ i) (hn : nx ≤ nx') : LsP τ nx' E sz v n cs := by
  rcases h with h | ⟨id, n', cs', h1, rfl, h2, h3⟩
  · exact .inl h
  · exact .inr ⟨id, n', cs', by omega, rfl, by rw [hs id (by simp [own]), h2], h3⟩
theorem len_lsp {σ : Sto} {nx E sz : Nat} {v : AV} {n : Nat} {cs : List AV} (h : LsP σ nx E sz v n cs) {t : Nat} {a b : Nat} {c : List Value} : lenK σ v (some ⟨.sl t, a, b, c⟩) = some (N n, σ) := by
  rcases h with ⟨rfl, rfl, rfl⟩ | ⟨id, n', cs', _, rfl, hσ, _⟩ <;> rfl
theorem lsp_app {σ : Sto} {key nx E sz by_ : Nat} {k : TK} {z : List Value} {v : AV} {n m : Nat} {cs news : List AV} (h : LsP σ nx E sz v n cs) (h1 : 0 < sz) (h2 : news.length = m * sz) (h3 : news.all leafOk = true) (h4 : m ≠ 0) (h5 : (n + m) * by_ ≤ 140737488355328) (h6 : n + m ≤ 9223372036854775807) (hk : nx ≤ key) :
    appK σ key E ⟨k, sz, by_, z⟩ v (some (m, news)) = some (.w key 0 (n + m), appSto σ key E sz v (n + m) (cs ++ news)) := by
  rcases h with ⟨rfl, rfl, rfl⟩ | ⟨id, n', cs', hid, rfl, hσ, hl, hn, ht⟩
  · rw [app_s h1 h2 h3 (by simp) h6 h5 (.inl h4)]
    rfl
  · rw [app_part hσ h1 h2 h3 (by rw [hl]; exact Nat.mul_le_mul_right _ hn) h6 h5 (by omega), ht]
    rfl
theorem StkOk.frame {σ τ : Sto} {v : AV} {st : List T} {ids : List Nat} (h : StkOk σ v st ids) (hs : ∀ i ∈ ids, τ i = σ i) : StkOk τ v st ids := by
  rcases h with h | ⟨id, k, k', cl, t, r, o, h1, h2, h3, h4, rfl, h5⟩
  · exact .inl h
  · exact .inr ⟨id, k, k', cl, t, r, ⟨o.s, o.v, o.m, o.pc, by rw [hs k (by simp), o.hk], by rw [hs k' (by simp), o.hk'], o.hc, o.hl, o.hp⟩, h1, h2, by rw [hs id (by simp), h3], h4, rfl, h5⟩
theorem len_stk {σ : Sto} {v : AV} {st : List T} {ids : List Nat} (h : StkOk σ v st ids) {t : Nat} {a b : Nat} {c : List Value} : lenK σ v (some ⟨.sl t, a, b, c⟩) = some (N st.length, σ) := by
  rcases h with ⟨rfl, rfl, rfl⟩ | ⟨id, k, k', cl, t, r, o, rfl, rfl, h3, _⟩
  · rfl
  · rfl
structure SI (kL : Nat) (L : List (List UInt8)) (i : Nat) (st : List T) (op : List (UInt8 × UInt8)) (ids : List Nat) (e : Nat → AV) (σ : Sto) (nx : Nat) : Prop where
  e20 : e 20 = .w kL 0 L.length
  sL : σ kL = some (.row 9 1 L.length (strs L))
  kLn : kL < nx
  e21 : e 21 = N L.length
  e22 : e 22 = N i
  h4 : StkOk σ (e 4) st ids
  h5 : LsP σ nx 9 1 (e 5) op.length (strs (opS op))
  idn : ∀ j ∈ ids, j < nx ∧ j ≠ kL ∧ j ∉ own (e 5)
  o5 : kL ∉ own (e 5)
/-- What a round or all of them leave. -/
def SR (kL : Nat) (L : List (List UInt8)) (a : AV) (q : Option (Ex × St)) : Option (List T × List (UInt8 × UInt8)) → Prop
  | some (st', op') => ∃ e' σ' nx' ids', q = some (.exit 0, ⟨e', σ', nx'⟩) ∧ SI kL L L.length st' op' ids' e' σ' nx' ∧ e' 0 = a
  | none => ∃ e' σ' nx', q = some (.ret, ⟨e', σ', nx'⟩) ∧ e' 2 = S [] ∧ e' 3 = B false
theorem begM_of {x : List UInt8} (h : begM x = true) : ∃ a v, x = [a, v] ∧ (a = 91 ∨ a = 123) := by
  unfold begM at h
  split at h
  · rename_i a v
    exact ⟨a, v, rfl, by simpa using h⟩
  · cases h
theorem TermOf_beg (kL : Nat) (L : List (List UInt8)) (hL : L.length < 100000000) (x : List UInt8) (r : List (List UInt8)) (i n : Nat) (st : List T) (op : List (UInt8 × UInt8)) (ids : List Nat) (e : Nat → AV) (σ : Sto) (nx : Nat) (q : Option (Ex × St)) (av : AV)
    (hd : L.drop i = x :: r) (hop : op.length ≤ i) (hI : SI kL L i st op ids e σ nx) (h0 : e 0 = av)
    (hq : roundsE (evC II EE (withOpt [oPl 51] pf) MX (bodyL Tryd.f14 0)) (n + 1) ⟨e, σ, nx⟩ = q) (hb : begM x = true) :
    ∃ a v e' σ' nx', x = [a, v] ∧ (a = 91 ∨ a = 123) ∧ roundsE (evC II EE (withOpt [oPl 51] pf) MX (bodyL Tryd.f14 0)) n ⟨e', σ', nx'⟩ = q ∧ SI kL L (i + 1) st ((a, v) :: op) ids e' σ' nx' ∧ e' 0 = av := by
  obtain ⟨hi, hx, hd'⟩ := strs_drop_head hd
  obtain ⟨a, v, rfl, hav⟩ := begM_of hb
  rw [rounds_rd] at hq
  have hc : ((i : Int) < (L.length : Int)) := by omega
  have hz : (0 : Int) ≤ (i : Int) := by omega
  have hw : IntKind.i64.wrap ((i : Int) + 1) = ((i + 1 : Nat) : Int) := by rw [wrap64 (by omega) (by omega)]; rfl
  have hhd : ((strs L).drop i).head? = some (S [a, v]) := by rw [strs_drop, hd]; rfl
  have h20 := hI.e20
  have h21 := hI.e21
  have h22 := hI.e22
  have hsL := hI.sL
  have h5 := hI.h5
  have hbe := begins_ev [a, v]
  rw [hb] at hbe
  simp only [bodyL, bodyOf, Tryd.f14, SA, loops, List.nil_append, List.append_nil, List.cons_append, List.getD_cons_zero, List.getD_cons_succ] at hq
  simp only [h20, h21, h22, hsL, hc, hz, hw, hhd, hbe, Int.toNat_natCast, Nat.mul_one, Nat.zero_add, RR, IA, PA, RA0, RA1, RA2, RA3, RA4, RA5, RA6, RA7, RA8, RA9, RA10, Nat.reduceAdd, Nat.reduceMul, Nat.reduceEqDiff, Nat.reduceLeDiff, Nat.reduceLT, Int.reduceToNat, Int.reduceLT, Int.reduceLE, Int.reduceEq, Int.reduceNeg, Int.reduceAdd, Int.reduceSub, Int.reduceMul, reduceIte] at hq
  rw [lsp_app h5 (by decide) (by rfl) (by rfl) (by decide) (by omega) (by omega) (by omega)] at hq
  generalize hτ : appSto _ _ _ _ (e 5) _ _ = τ at hq
  have t1 := (congrFun hτ _).symm.trans (appSto_key ..)
  have t2 : ∀ j, j ≠ _ → j ∉ own (e 5) → τ j = σ j := fun j h1 h2 => (congrFun hτ j).symm.trans (own_other h1 h2)
  clear hτ
  simp only [h22, hw, RR, IA, PA, RA0, RA1, RA2, RA3, RA4, RA5, RA6, RA7, RA8, RA9, RA10, Nat.reduceAdd, Nat.reduceMul, Nat.reduceEqDiff, Nat.reduceLeDiff, Nat.reduceLT, Int.reduceToNat, Int.reduceLT, Int.reduceLE, Int.reduceEq, Int.reduceNeg, Int.reduceAdd, Int.reduceSub, Int.reduceMul, reduceIte] at hq
  have hkL := hI.kLn
  refine ⟨a, v, _, _, _, rfl, hav, hq, ⟨h20, ?_, by omega, h21, rfl, ?_, ?_, ?_, ?_⟩, h0⟩
  · rw [t2 kL (by omega) hI.o5, hsL]
  · exact hI.h4.frame fun j hj => by
      obtain ⟨g1, g2, g3⟩ := hI.idn j hj
      exact t2 j (by omega) g3
  · rw [opS_cons]
    refine .inr ⟨_, _, _, by omega, rfl, t1, ?_, Nat.le_refl _, ?_⟩
    · simp [strs_len, opS_len]
    · rw [List.take_of_length_le (by simp [strs_len, opS_len])]
      simp [strs]
  · intro j hj
    obtain ⟨g1, g2, g3⟩ := hI.idn j hj
    refine ⟨by omega, g2, ?_⟩
    show j ∉ [nx + 4 + 12 + 8 + 12]
    simp only [List.mem_singleton]
    omega
  · show kL ∉ [nx + 4 + 12 + 8 + 12]
    simp only [List.mem_singleton]
    omega
theorem beq_long (a b : UInt8) (l : List UInt8) : ((a :: b :: l : List UInt8) == []) = false := rfl
theorem TermOf_bad (kL : Nat) (L : List (List UInt8)) (hL : L.length < 100000000) (x : List UInt8) (r : List (List UInt8)) (i n : Nat) (st : List T) (op : List (UInt8 × UInt8)) (ids : List Nat) (e : Nat → AV) (σ : Sto) (nx : Nat) (q : Option (Ex × St))
    (hd : L.drop i = x :: r) (hop : op.length ≤ i) (hI : SI kL L i st op ids e σ nx)
    (hq : roundsE (evC II EE (withOpt [oPl 51] pf) MX (bodyL Tryd.f14 0)) (n + 1) ⟨e, σ, nx⟩ = q) (hb : begM x = false) (hbad : x = [] ∨ 1 < x.length ∨ (∃ a, x = [a] ∧ endM x = true ∧ op = [])) :
    ∃ e' σ' nx', q = some (.ret, ⟨e', σ', nx'⟩) ∧ e' 2 = S [] ∧ e' 3 = B false := by
  obtain ⟨hi, hx, hd'⟩ := strs_drop_head hd
  rw [rounds_rd] at hq
  have hc : ((i : Int) < (L.length : Int)) := by omega
  have hz : (0 : Int) ≤ (i : Int) := by omega
  have hhd : ((strs L).drop i).head? = some (S x) := by rw [strs_drop, hd]; rfl
  have h20 := hI.e20
  have h21 := hI.e21
  have h22 := hI.e22
  have hsL := hI.sL
  have h5 := hI.h5
  have hbe := begins_ev x
  rw [hb] at hbe
  simp only [bodyL, bodyOf, Tryd.f14, SA, loops, List.nil_append, List.append_nil, List.cons_append, List.getD_cons_zero, List.getD_cons_succ] at hq
  rcases hbad with rfl | hlen | ⟨a, rfl, he, rfl⟩
  · simp only [h20, h21, h22, hsL, hc, hz, hhd, hbe, TMA, Int.toNat_natCast, Nat.mul_one, Nat.zero_add, RR, IA, PA, RA0, RA1, RA2, RA3, RA4, RA5, RA6, RA7, RA8, RA9, RA10, Nat.reduceAdd, Nat.reduceMul, Nat.reduceEqDiff, Nat.reduceLeDiff, Nat.reduceLT, Int.reduceToNat, Int.reduceLT, Int.reduceLE, Int.reduceEq, Int.reduceNeg, Int.reduceAdd, Int.reduceSub, Int.reduceMul, reduceIte] at hq
    exact ⟨_, _, _, hq.symm, rfl, rfl⟩
  · obtain ⟨a, b, l, rfl⟩ : ∃ a b l, x = a :: b :: l := by
      match x, hlen with
      | a :: b :: l, _ => exact ⟨a, b, l, rfl⟩
    have hl1 : ((1 : Int) < ((l.length + 1 + 1 : Nat) : Int)) := by omega
    simp only [h20, h21, h22, hsL, hc, hz, hhd, hbe, hl1, TMA, Int.toNat_natCast, Nat.mul_one, Nat.zero_add, RR, IA, PA, RA0, RA1, RA2, RA3, RA4, RA5, RA6, RA7, RA8, RA9, RA10, Nat.reduceAdd, Nat.reduceMul, Nat.reduceEqDiff, Nat.reduceLeDiff, Nat.reduceLT, Int.reduceToNat, Int.reduceLT, Int.reduceLE, Int.reduceEq, Int.reduceNeg, Int.reduceAdd, Int.reduceSub, Int.reduceMul, reduceIte] at hq
    exact ⟨_, _, _, hq.symm, rfl, rfl⟩
  · have hen := isEnd_ev [a]
    rw [he] at hen
    have hl5 := fun t a b c => len_lsp h5 (t := t) (a := a) (b := b) (c := c)
    simp only [h20, h21, h22, hsL, hc, hz, hhd, hbe, hen, len_lsp h5, List.length_nil, TMA, Int.toNat_natCast, Nat.mul_one, Nat.zero_add, RR, IA, PA, RA0, RA1, RA2, RA3, RA4, RA5, RA6, RA7, RA8, RA9, RA10, Nat.reduceAdd, Nat.reduceMul, Nat.reduceEqDiff, Nat.reduceLeDiff, Nat.reduceLT, Int.reduceToNat, Int.reduceLT, Int.reduceLE, Int.reduceEq, Int.reduceNeg, Int.reduceAdd, Int.reduceSub, Int.reduceMul, reduceIte] at hq
    exact ⟨_, _, _, hq.symm, rfl, rfl⟩
end
end Go.Proofs.YtkmnidbodlmaaaaDoor.Ev

/-
Code: the implementation's loop: terms are made.
-/
namespace Go.Proofs.YtkmnidbodlmaaaaDoor.Ev
section
set_option linter.unusedVariables false
set_option linter.unusedSimpArgs false
open Go Go.RowKit
set_option linter.unusedVariables false
set_option linter.unusedSimpArgs false
theorem AllP.one {l : List AV} {t : T} (h : AllP l [t]) : ∃ p, l = [p] ∧ IsP p t := by
  cases h with
  | cons h k => cases k; exact ⟨_, rfl, h⟩
theorem AllP.two {l : List AV} {t u : T} (h : AllP l [t, u]) : ∃ p q, l = [p, q] ∧ IsP p t ∧ IsP q u := by
  cases h with
  | cons h k =>
    obtain ⟨q, rfl, hq⟩ := k.one
    exact ⟨_, q, rfl, h, hq⟩
theorem AllP.none {l : List AV} (h : AllP l []) : l = [] := by cases h; rfl
/-- The stack behind a round. -/
theorem stk_next {σ' : Sto} {all : List AV} {st : List T} {m id2 kb k2 : Nat} {s v : List UInt8} {t' : T} (hall : AllP all st.reverse) (hm : m ≤ st.length) (h1 : σ' id2 = some (.row 48 1 (st.length - m + 1) (all.take (st.length - m) ++ [.r kb 0])))
    (h2 : σ' kb = some (.ob 50 [S s, S v, .w k2 0 m])) (h3 : σ' k2 = some (.row 48 1 m ((all.drop (st.length - m)).take m))) (hp : IsP (.p [S s, S v, .s false m ((all.drop (st.length - m)).take m)]) t') (n1 : id2 ≠ kb) (n2 : id2 ≠ k2) (n3 : kb ≠ k2) :
    StkOk σ' (.w id2 0 (st.length - m + 1)) (t' :: st.drop m) [id2, kb, k2] := by
  have hl : all.length = st.length := by rw [hall.len]; simp
  have e1 : (st.drop m).length + 1 = st.length - m + 1 := by simp
  refine .inr ⟨id2, kb, k2, all.take (st.length - m), t', st.drop m, ⟨s, v, m, (all.drop (st.length - m)).take m, h2, h3, ?_, ?_, hp⟩, rfl, by rw [e1], by rw [e1]; exact h1, ?_, rfl, n1, n2, n3⟩
  · exact ((hall.drop _).take _).closed
  · simp only [List.length_take, List.length_drop]; omega
  · have := hall.take (st.length - m)
    rwa [List.take_reverse, show st.length - (st.length - m) = m by omega] at this
theorem pc_of {all : List AV} {st : List T} {m : Nat} (hall : AllP all st.reverse) (hm : m ≤ st.length) : AllP ((all.drop (st.length - m)).take m) (st.take m).reverse := by
  have h := (hall.drop (st.length - m)).take m
  rw [List.drop_reverse, show st.length - (st.length - m) = m by omega, List.take_of_length_le (i := m) (l := (st.take m).reverse) (by simp; omega)] at h
  exact h
def Obj1.frame {σ τ : Sto} {k k' : Nat} {t : T} (o : Obj1 σ k k' t) (h1 : τ k = σ k) (h2 : τ k' = σ k') : Obj1 τ k k' t := ⟨o.s, o.v, o.m, o.pc, by rw [h1, o.hk], by rw [h2, o.hk'], o.hc, o.hl, o.hp⟩
theorem clone_key (σ : Sto) (key id k k' N n : Nat) (ds cs : List AV) : cloneS σ key id k k' N n ds cs key = some (.row 48 1 n cs) := by simp [cloneS, upd]
theorem clone_id {σ : Sto} {key id k k' N n : Nat} {ds cs : List AV} (h : id ≠ key) : cloneS σ key id k k' N n ds cs id = some (.row 48 1 N ds) := by simp [cloneS, upd, h]
theorem clone_other {σ : Sto} {key id k k' N n : Nat} {ds cs : List AV} {j : Nat} (h1 : j ≠ key) (h2 : j ≠ id) (h3 : j ≠ k) (h4 : j ≠ k') : cloneS σ key id k k' N n ds cs j = σ j := by simp [cloneS, upd, killL, frz, h1, h2, h3, h4]
theorem call_cloned {pf' : FuncId → Nat} {σ σ1 : Sto} {key id lo n k k' N : Nat} {t : T} {cl : List AV} (o : Obj1 σ k k' t) (hp : pf' 50 = 2) (hk : σ1 k = σ k) (hk' : σ1 k' = σ k') (hcl : closedL cl = true) (hcf : cl.all leafOk = true) (hN : cl.length + 1 = N) (hσ : σ1 id = some (.row 48 1 N (cl ++ [.r k 0])))
    (h1 : id ≠ k) (h2 : id ≠ k') (h3 : k ≠ k') (hln : lo + n ≤ N) (hn : n ≤ 1000000) :
    callOp EE pf' σ1 key 50 [.w id lo n] = some (.w key 0 n, cloneS σ1 key id k k' N n (cl ++ [o.ptr]) (((cl ++ [o.ptr]).drop lo).take n)) := by
  subst hN
  exact call_clone hp (o.frame hk hk') hcl hcf hσ h1 h2 h3 hln hn
/-- The run at an instruction of one byte that ends nothing; the stack is not empty. -/
theorem TermOf_one (kL : Nat) (L : List (List UInt8)) (hL : L.length < 100000000) (x : UInt8) (r : List (List UInt8)) (i n : Nat) (st : List T) (op : List (UInt8 × UInt8)) (ids : List Nat) (e : Nat → AV) (σ : Sto) (nx : Nat) (q : Option (Ex × St)) (av : AV)
    (hd : L.drop i = [x] :: r) (hst : st.length ≤ i) (hop : op.length ≤ i) (hI : SI kL L i st op ids e σ nx) (h0 : e 0 = av)
    (hq : roundsE (evC II EE (withOpt [oPl 51] pf) MX (bodyL Tryd.f14 0)) (n + 1) ⟨e, σ, nx⟩ = q) (he : endM [x] = false) (m : Nat) (ha : arM [x] = (m : Int)) (hm : m ≤ st.length) (hm2 : m ≤ 2) (hne : st ≠ []) (t' : T)
    (hp : ∀ pc, AllP pc (st.take m).reverse → IsP (.p [S [x], S [], .s false m pc]) t') :
    ∃ e' σ' nx' ids', roundsE (evC II EE (withOpt [oPl 51] pf) MX (bodyL Tryd.f14 0)) n ⟨e', σ', nx'⟩ = q ∧ SI kL L (i + 1) (t' :: st.drop m) op ids' e' σ' nx' ∧ e' 0 = av := by
  obtain ⟨hi, hx, hd'⟩ := strs_drop_head hd
  rw [rounds_rd] at hq
  have hc : ((i : Int) < (L.length : Int)) := by omega
  have hz : (0 : Int) ≤ (i : Int) := by omega
  have hhd : ((strs L).drop i).head? = some (S [x]) := by rw [strs_drop, hd]; rfl
  have hw : IntKind.i64.wrap ((i : Int) + 1) = ((i + 1 : Nat) : Int) := by rw [wrap64 (by omega) (by omega)]; rfl
  have h20 := hI.e20
  have h21 := hI.e21
  have h22 := hI.e22
  have hsL := hI.sL
  have h5 := hI.h5
  have hbe : EE 47 [S [x]] = some (B false) := begins_ev [x]
  have hen := isEnd_ev [x]
  rw [he] at hen
  have har := arity_ev x
  rw [ha] at har
  simp only [bodyL, bodyOf, Tryd.f14, SA, loops, List.nil_append, List.append_nil, List.cons_append, List.getD_cons_zero, List.getD_cons_succ] at hq
  rcases hI.h4 with ⟨_, h, _⟩ | ⟨id, k, k', cl, t, r0, o, rfl, h4, hσ, hcl, rfl, n1, n2, n3⟩
  · exact absurd h hne
  have hlm : ¬ (((r0.length + 1 : Nat) : Int) < (m : Int)) := by simp only [List.length_cons] at hm; omega
  have hws : IntKind.i64.wrap (((r0.length + 1 : Nat) : Int) - (m : Int)) = ((r0.length + 1 - m : Nat) : Int) := by
    simp only [List.length_cons] at hm hst
    rw [wrap64 (by omega) (by omega)]; omega
  simp only [h20, h21, h22, hsL, hc, hz, hhd, hbe, hen, har, h4, hlm, hws, TMA, Int.toNat_natCast, Nat.mul_one, Nat.zero_add, cut_w_lo, RR, IA, PA, RA0, RA1, RA2, RA3, RA4, RA5, RA6, RA7, RA8, RA9, RA10, Nat.reduceAdd, Nat.reduceMul, Nat.reduceEqDiff, Nat.reduceLeDiff, Nat.reduceLT, Int.reduceToNat, Int.reduceLT, Int.reduceLE, Int.reduceEq, Int.reduceNeg, Int.reduceAdd, Int.reduceSub, Int.reduceMul, reduceIte] at hq
  have hcll : cl.length = r0.length := by rw [hcl.len]; simp
  have hmr : m ≤ r0.length + 1 := hm
  have hNm : r0.length + 1 - (r0.length + 1 - m) = m := by omega
  have hcon : (0 : Int) ≤ ((r0.length + 1 - m : Nat) : Int) ∧ ((r0.length + 1 - m : Nat) : Int) ≤ ((r0.length + 1 : Nat) : Int) := ⟨by omega, by omega⟩
  rw [if_pos hcon] at hq
  simp only [hNm, RR, IA, PA, RA0, RA1, RA2, RA3, RA4, RA5, RA6, RA7, RA8, RA9, RA10, Nat.reduceAdd, Nat.reduceMul, Nat.reduceEqDiff, Nat.reduceLeDiff, Nat.reduceLT, Int.reduceToNat, Int.reduceLT, Int.reduceLE, Int.reduceEq, Int.reduceNeg, Int.reduceAdd, Int.reduceSub, Int.reduceMul, reduceIte] at hq
  obtain ⟨g1, g2, g3⟩ := hI.idn id (by simp)
  obtain ⟨gk1, gk2, gk3⟩ := hI.idn k (by simp)
  obtain ⟨gp1, gp2, gp3⟩ := hI.idn k' (by simp)
  have hkLn := hI.kLn
  have hst2 : r0.length + 1 ≤ i := hst
  rw [call_cloned o (by rfl) (by rw [upd, if_neg (by omega)]) (by rw [upd, if_neg (by omega)]) hcl.closed hcl.leaf (by rw [hcll]) (by rw [upd, if_neg (by omega), hσ]) n1 n2 n3 (by omega) (by omega)] at hq
  generalize hτ : cloneS _ _ _ _ _ _ _ _ _ = τ at hq
  have t1 := (congrFun hτ _).symm.trans (clone_key ..)
  have t2 := (congrFun hτ id).symm.trans (clone_id (by omega))
  have t3 : ∀ j, j ≠ _ → j ≠ id → j ≠ k → j ≠ k' → τ j = _ := fun j h1 h2 h3 h4 => (congrFun hτ j).symm.trans (clone_other h1 h2 h3 h4)
  clear hτ
  have t4 := t3 (nx + 4 + 12 + 8 + 64 + 8) (by omega) (by omega) (by omega) (by omega)
  rw [upd, if_pos rfl] at t4
  simp only [t4, h4, hws, cut_w_hi, RR, IA, PA, RA0, RA1, RA2, RA3, RA4, RA5, RA6, RA7, RA8, RA9, RA10, Nat.reduceAdd, Nat.reduceMul, Nat.reduceEqDiff, Nat.reduceLeDiff, Nat.reduceLT, Int.reduceToNat, Int.reduceLT, Int.reduceLE, Int.reduceEq, Int.reduceNeg, Int.reduceAdd, Int.reduceSub, Int.reduceMul, reduceIte] at hq
  rw [if_pos hcon] at hq
  have hall : AllP (cl ++ [o.ptr]) (t :: r0).reverse := by
    rw [List.reverse_cons]
    exact hcl.app (.cons o.hp .nil)
  have hal : (cl ++ [o.ptr]).length = r0.length + 1 := by rw [hall.len]; simp
  rw [app_part (n' := r0.length + 1) (cs := cl ++ [o.ptr]) (by rw [upd, if_neg (by omega)]; exact t2) (by decide) (by rfl) (by rfl) (by show (r0.length + 1 - m) * 1 ≤ _; rw [hal]; omega) (by omega) (by omega) (by omega)] at hq
  simp only [h22, hw, RR, IA, PA, RA0, RA1, RA2, RA3, RA4, RA5, RA6, RA7, RA8, RA9, RA10, Nat.reduceAdd, Nat.reduceMul, Nat.reduceEqDiff, Nat.reduceLeDiff, Nat.reduceLT, Int.reduceToNat, Int.reduceLT, Int.reduceLE, Int.reduceEq, Int.reduceNeg, Int.reduceAdd, Int.reduceSub, Int.reduceMul, reduceIte] at hq
  have e1 : r0.length + 1 - m = (t :: r0).length - m := rfl
  refine ⟨_, _, _, [nx + 4 + 12 + 8 + 64 + 28 + 8 + 16 + 44 + 32, nx + 4 + 12 + 8 + 64 + 8, nx + 4 + 12 + 8 + 64 + 28 + 8 + 16 + 28], hq, ⟨h20, ?_, by omega, h21, rfl, ?_, ?_, ?_, hI.o5⟩, h0⟩
  · simp only [upd]
    rw [if_neg (by omega), if_neg (by omega), if_neg (by omega), t3 kL (by omega) (by omega) (by omega) (by omega), upd, if_neg (by omega), hsL]
  · change StkOk _ (.w (nx + 4 + 12 + 8 + 64 + 28 + 8 + 16 + 44 + 32) 0 ((t :: r0).length - m + 1)) (t' :: (t :: r0).drop m) _
    refine stk_next (id2 := nx + 4 + 12 + 8 + 64 + 28 + 8 + 16 + 44 + 32) (kb := nx + 4 + 12 + 8 + 64 + 8) (k2 := nx + 4 + 12 + 8 + 64 + 28 + 8 + 16 + 28) (s := [x]) (v := []) (all := cl ++ [o.ptr]) hall hm ?_ ?_ ?_ (hp _ (pc_of hall hm)) (by omega) (by omega) (by omega)
    · simp only [upd, if_true, Nat.mul_one]
      rfl
    · simp only [upd]
      rw [if_neg (by omega), if_neg (by omega)]
      simp only [if_true]
    · simp only [upd]
      rw [if_neg (by omega), if_neg (by omega), if_neg (by omega), t1]
      rfl
  · refine h5.frame (fun j hj => ?_) (by omega)
    have q1 := h5.n j hj
    have q2 : j ≠ id := fun e => g3 (e ▸ hj)
    have q3 : j ≠ k := fun e => gk3 (e ▸ hj)
    have q4 : j ≠ k' := fun e => gp3 (e ▸ hj)
    simp only [upd]
    rw [if_neg (by omega), if_neg q2, if_neg (by omega), t3 j (by omega) q2 q3 q4, upd, if_neg (by omega)]
  · intro j hj
    have hown : ∀ j ∈ own (e 5), j < nx := h5.n
    simp only [List.mem_cons, List.not_mem_nil, or_false] at hj
    refine ⟨by omega, by omega, fun h => ?_⟩
    have := hown j h
    omega
end
end Go.Proofs.YtkmnidbodlmaaaaDoor.Ev

/-
Code: the implementation's loop: the first term, too few terms, ends of loops.
-/
namespace Go.Proofs.YtkmnidbodlmaaaaDoor.Ev
section
set_option linter.unusedVariables false
set_option linter.unusedSimpArgs false
open Go Go.RowKit
set_option linter.unusedVariables false
set_option linter.unusedSimpArgs false
theorem call_clone0 {pf' : FuncId → Nat} {σ : Sto} {key : Nat} (hp : pf' 50 = 2) :
    callOp EE pf' σ key 50 [.s true 0 []] = some (.w key 0 0, upd σ key (some (.row 48 1 0 []))) := by
  have hE : EE 50 [.s true 0 []] = some (.t [.o 48 1 0 [], .t [.s true 0 []]]) := EE_hand rfl
  rw [call2_eq hp]
  have e1 : needs σ [.s true 0 []] = [] := rfl
  have e3 : deepC (pack1 (frz0 σ [])) [.s true 0 []] = some ([.s true 0 []], []) := rfl
  rw [e1, e3]
  simp only [Option.bind_some, lend1]
  rw [if_pos (by simp), hE]
  simp only [Option.bind_some, lend2, e1, frz0, back]
  rw [if_pos (by simp [room])]
  rfl
theorem TermOf_few (kL : Nat) (L : List (List UInt8)) (hL : L.length < 100000000) (x : UInt8) (r : List (List UInt8)) (i n : Nat) (st : List T) (op : List (UInt8 × UInt8)) (ids : List Nat) (e : Nat → AV) (σ : Sto) (nx : Nat) (q : Option (Ex × St))
    (hd : L.drop i = [x] :: r) (hst : st.length ≤ i) (hI : SI kL L i st op ids e σ nx)
    (hq : roundsE (evC II EE (withOpt [oPl 51] pf) MX (bodyL Tryd.f14 0)) (n + 1) ⟨e, σ, nx⟩ = q) (he : endM [x] = false) (m : Nat) (ha : arM [x] = (m : Int)) (hm : st.length < m) :
    ∃ e' σ' nx', q = some (.ret, ⟨e', σ', nx'⟩) ∧ e' 2 = S [] ∧ e' 3 = B false := by
  obtain ⟨hi, hx, hd'⟩ := strs_drop_head hd
  rw [rounds_rd] at hq
  have hc : ((i : Int) < (L.length : Int)) := by omega
  have hz : (0 : Int) ≤ (i : Int) := by omega
  have hhd : ((strs L).drop i).head? = some (S [x]) := by rw [strs_drop, hd]; rfl
  have hw : IntKind.i64.wrap ((i : Int) + 1) = ((i + 1 : Nat) : Int) := by rw [wrap64 (by omega) (by omega)]; rfl
  have h20 := hI.e20
  have h21 := hI.e21
  have h22 := hI.e22
  have hsL := hI.sL
  have h5 := hI.h5
  have hbe : EE 47 [S [x]] = some (B false) := begins_ev [x]
  have hen := isEnd_ev [x]
  rw [he] at hen
  have har := arity_ev x
  rw [ha] at har
  simp only [bodyL, bodyOf, Tryd.f14, SA, loops, List.nil_append, List.append_nil, List.cons_append, List.getD_cons_zero, List.getD_cons_succ] at hq
  have hlm : ((st.length : Int) < (m : Int)) := by omega
  simp only [h20, h21, h22, hsL, hc, hz, hhd, hbe, hen, har, len_stk hI.h4, hlm, TMA, Int.toNat_natCast, Nat.mul_one, Nat.zero_add, cut_w_lo, RR, IA, PA, RA0, RA1, RA2, RA3, RA4, RA5, RA6, RA7, RA8, RA9, RA10, Nat.reduceAdd, Nat.reduceMul, Nat.reduceEqDiff, Nat.reduceLeDiff, Nat.reduceLT, Int.reduceToNat, Int.reduceLT, Int.reduceLE, Int.reduceEq, Int.reduceNeg, Int.reduceAdd, Int.reduceSub, Int.reduceMul, reduceIte] at hq
  have hs : ∀ X Y, lenK (upd σ X Y) (e 4) (some ⟨.sl 48, 1, 24, [.slice none 0 0]⟩) = some (N st.length, upd σ X Y) := fun X Y => by
    rcases hI.h4 with ⟨h, rfl, rfl⟩ | ⟨id, k, k', cl, t, r, o, rfl, h2, h3, _⟩
    · rw [h]; rfl
    · rw [h2]; rfl
  simp only [hs, hlm, TMA, RR, IA, PA, RA0, RA1, RA2, RA3, RA4, RA5, RA6, RA7, RA8, RA9, RA10, Nat.reduceAdd, Nat.reduceMul, Nat.reduceEqDiff, Nat.reduceLeDiff, Nat.reduceLT, Int.reduceToNat, Int.reduceLT, Int.reduceLE, Int.reduceEq, Int.reduceNeg, Int.reduceAdd, Int.reduceSub, Int.reduceMul, reduceIte] at hq
  exact ⟨_, _, _, hq.symm, rfl, rfl⟩
theorem TermOf_first (kL : Nat) (L : List (List UInt8)) (hL : L.length < 100000000) (x : UInt8) (r : List (List UInt8)) (i n : Nat) (op : List (UInt8 × UInt8)) (ids : List Nat) (e : Nat → AV) (σ : Sto) (nx : Nat) (q : Option (Ex × St)) (av : AV)
    (hd : L.drop i = [x] :: r) (hI : SI kL L i [] op ids e σ nx) (h0 : e 0 = av)
    (hq : roundsE (evC II EE (withOpt [oPl 51] pf) MX (bodyL Tryd.f14 0)) (n + 1) ⟨e, σ, nx⟩ = q) (he : endM [x] = false) (ha : arM [x] = 0) (t' : T)
    (hp : IsP (.p [S [x], S [], .s false 0 []]) t') :
    ∃ e' σ' nx' ids', roundsE (evC II EE (withOpt [oPl 51] pf) MX (bodyL Tryd.f14 0)) n ⟨e', σ', nx'⟩ = q ∧ SI kL L (i + 1) [t'] op ids' e' σ' nx' ∧ e' 0 = av := by
  obtain ⟨hi, hx, hd'⟩ := strs_drop_head hd
  rw [rounds_rd] at hq
  have hc : ((i : Int) < (L.length : Int)) := by omega
  have hz : (0 : Int) ≤ (i : Int) := by omega
  have hhd : ((strs L).drop i).head? = some (S [x]) := by rw [strs_drop, hd]; rfl
  have hw : IntKind.i64.wrap ((i : Int) + 1) = ((i + 1 : Nat) : Int) := by rw [wrap64 (by omega) (by omega)]; rfl
  have h20 := hI.e20
  have h21 := hI.e21
  have h22 := hI.e22
  have hsL := hI.sL
  have h5 := hI.h5
  have hbe : EE 47 [S [x]] = some (B false) := begins_ev [x]
  have hen := isEnd_ev [x]
  rw [he] at hen
  have har := arity_ev x
  rw [ha] at har
  simp only [bodyL, bodyOf, Tryd.f14, SA, loops, List.nil_append, List.append_nil, List.cons_append, List.getD_cons_zero, List.getD_cons_succ] at hq
  rcases hI.h4 with ⟨h4, _, rfl⟩ | ⟨id, k, k', cl, t, r0, o, h, _⟩
  case inr => cases h
  have hkLn := hI.kLn
  simp only [h20, h21, h22, hsL, hc, hz, hhd, hbe, hen, har, h4, TMA, Int.toNat_natCast, Nat.mul_one, Nat.zero_add, cut_w_lo, RR, IA, PA, RA0, RA1, RA2, RA3, RA4, RA5, RA6, RA7, RA8, RA9, RA10, Nat.reduceAdd, Nat.reduceMul, Nat.reduceEqDiff, Nat.reduceLeDiff, Nat.reduceLT, Int.reduceToNat, Int.reduceLT, Int.reduceLE, Int.reduceEq, Int.reduceNeg, Int.reduceAdd, Int.reduceSub, Int.reduceMul, reduceIte] at hq
  have c1 : cut 1 (.s true 0 []) (some (.v (.int .i64 0))) none = some (.s true 0 []) := rfl
  have c2 : cut 1 (.s true 0 []) none (some (.v (.int .i64 0))) = some (.s true 0 []) := rfl
  simp only [c1, RR, IA, PA, RA0, RA1, RA2, RA3, RA4, RA5, RA6, RA7, RA8, RA9, RA10, Nat.reduceAdd, Nat.reduceMul, Nat.reduceEqDiff, Nat.reduceLeDiff, Nat.reduceLT, Int.reduceToNat, Int.reduceLT, Int.reduceLE, Int.reduceEq, Int.reduceNeg, Int.reduceAdd, Int.reduceSub, Int.reduceMul, reduceIte] at hq
  rw [call_clone0 (by rfl)] at hq
  generalize hτ : upd _ _ (some (Slot.row _ _ _ _)) = τ at hq
  have t1 : τ (nx + 4 + 12 + 8 + 64 + 28 + 8 + 16 + 28) = some (.row 48 1 0 []) := by rw [← hτ]; simp only [upd, if_true]
  have t4 : τ (nx + 4 + 12 + 8 + 64 + 8) = some (.ob 50 [S [x], S [], .s true 0 []]) := by
    rw [← hτ]; simp only [upd]; rw [if_neg (by omega)]; simp only [if_true]
  have t3 : ∀ j, j < nx → τ j = σ j := fun j hj => by rw [← hτ]; simp only [upd]; rw [if_neg (by omega), if_neg (by omega)]
  clear hτ
  simp only [t4, h4, c2, RR, IA, PA, RA0, RA1, RA2, RA3, RA4, RA5, RA6, RA7, RA8, RA9, RA10, Nat.reduceAdd, Nat.reduceMul, Nat.reduceEqDiff, Nat.reduceLeDiff, Nat.reduceLT, Int.reduceToNat, Int.reduceLT, Int.reduceLE, Int.reduceEq, Int.reduceNeg, Int.reduceAdd, Int.reduceSub, Int.reduceMul, reduceIte] at hq
  rw [app_s (by decide) (by rfl) (by rfl) (by rfl) (by decide) (by decide) (.inl (by decide))] at hq
  have hw0 : IntKind.i64.wrap ((i : Int) + 1) = ((i + 1 : Nat) : Int) := hw
  simp only [h22, hw0, RR, IA, PA, RA0, RA1, RA2, RA3, RA4, RA5, RA6, RA7, RA8, RA9, RA10, Nat.reduceAdd, Nat.reduceMul, Nat.reduceEqDiff, Nat.reduceLeDiff, Nat.reduceLT, Int.reduceToNat, Int.reduceLT, Int.reduceLE, Int.reduceEq, Int.reduceNeg, Int.reduceAdd, Int.reduceSub, Int.reduceMul, reduceIte] at hq
  have h5 := hI.h5
  refine ⟨_, _, _, [nx + 4 + 12 + 8 + 64 + 28 + 8 + 16 + 44 + 32, nx + 4 + 12 + 8 + 64 + 8, nx + 4 + 12 + 8 + 64 + 28 + 8 + 16 + 28], hq, ⟨h20, ?_, by omega, h21, rfl, ?_, ?_, ?_, hI.o5⟩, h0⟩
  · simp only [upd]
    rw [if_neg (by omega), if_neg (by omega), t3 kL (by omega), hsL]
  · change StkOk _ (.w (nx + 4 + 12 + 8 + 64 + 28 + 8 + 16 + 44 + 32) 0 (([] : List T).length - 0 + 1)) (t' :: ([] : List T).drop 0) _
    refine stk_next (id2 := nx + 4 + 12 + 8 + 64 + 28 + 8 + 16 + 44 + 32) (kb := nx + 4 + 12 + 8 + 64 + 8) (k2 := nx + 4 + 12 + 8 + 64 + 28 + 8 + 16 + 28) (s := [x]) (v := []) (all := []) .nil (Nat.le_refl _) ?_ ?_ ?_ hp (by omega) (by omega) (by omega)
    · simp only [upd, if_true]
      rfl
    · simp only [upd]
      rw [if_neg (by omega)]
      simp only [if_true]
    · simp only [upd]
      rw [if_neg (by omega), if_neg (by omega), t1]
      rfl
  · refine h5.frame (fun j hj => ?_) (by omega)
    have q1 := h5.n j hj
    simp only [upd]
    rw [if_neg (by omega), if_neg (by omega), t3 j q1]
  · intro j hj
    have hown : ∀ j ∈ own (e 5), j < nx := h5.n
    simp only [List.mem_cons, List.not_mem_nil, or_false] at hj
    refine ⟨by omega, by omega, fun h => ?_⟩
    have := hown j h
    omega
theorem end_ar {x : UInt8} (h : endM [x] = true) : arM [x] = 0 := by
  have h2 : x = 93 ∨ x = 125 := by simpa [endM] using h
  rcases h2 with rfl | rfl <;> rfl
theorem drop_last {α : Type} {l pre : List α} {y : α} {n : Nat} (h : l.take n = pre ++ [y]) (hn : n = pre.length + 1) : (l.drop (n - 1)).head? = some y ∧ l.take (n - 1) = pre := by
  subst hn
  have h1 : l[pre.length]? = some y := by
    have := congrArg (fun z => z[pre.length]?) h
    simp only [List.getElem?_take] at this
    simpa using this
  refine ⟨by simpa [List.head?_drop] using h1, ?_⟩
  have := congrArg (List.take pre.length) h
  rw [List.take_take] at this
  simpa using this
theorem TermOf_end (kL : Nat) (L : List (List UInt8)) (hL : L.length < 100000000) (x : UInt8) (r : List (List UInt8)) (i n : Nat) (t t1' : T) (st : List T) (c v : UInt8) (op : List (UInt8 × UInt8)) (ids : List Nat) (e : Nat → AV) (σ : Sto) (nx : Nat) (q : Option (Ex × St)) (av : AV)
    (hd : L.drop i = [x] :: r) (hst : st.length + 2 ≤ i) (hop : op.length + 1 ≤ i) (hI : SI kL L i (t :: t1' :: st) ((c, v) :: op) ids e σ nx) (h0 : e 0 = av)
    (hq : roundsE (evC II EE (withOpt [oPl 51] pf) MX (bodyL Tryd.f14 0)) (n + 1) ⟨e, σ, nx⟩ = q) (he : endM [x] = true) :
    ∃ e' σ' nx' ids', roundsE (evC II EE (withOpt [oPl 51] pf) MX (bodyL Tryd.f14 0)) n ⟨e', σ', nx'⟩ = q ∧ SI kL L (i + 1) (.loop c v t1' t :: st) op ids' e' σ' nx' ∧ e' 0 = av := by
  obtain ⟨hi, hx, hd'⟩ := strs_drop_head hd
  rw [rounds_rd] at hq
  have hc : ((i : Int) < (L.length : Int)) := by omega
  have hz : (0 : Int) ≤ (i : Int) := by omega
  have hhd : ((strs L).drop i).head? = some (S [x]) := by rw [strs_drop, hd]; rfl
  have hw : IntKind.i64.wrap ((i : Int) + 1) = ((i + 1 : Nat) : Int) := by rw [wrap64 (by omega) (by omega)]; rfl
  have h20 := hI.e20
  have h21 := hI.e21
  have h22 := hI.e22
  have hsL := hI.sL
  have h5 := hI.h5
  have hbe : EE 47 [S [x]] = some (B false) := begins_ev [x]
  have hen := isEnd_ev [x]
  rw [he] at hen
  have har := arity_ev x
  have ha := end_ar he
  rw [ha] at har
  simp only [bodyL, bodyOf, Tryd.f14, SA, loops, List.nil_append, List.append_nil, List.cons_append, List.getD_cons_zero, List.getD_cons_succ] at hq
  rcases hI.h4 with ⟨_, h, _⟩ | ⟨id, k, k', cl, t0, r0, o, hst0, h4, hσ, hcl, rfl, n1, n2, n3⟩
  · cases h
  cases hst0
  rcases h5 with ⟨_, h, _⟩ | ⟨id5, n5, cs5, hid5, h5e, hσ5, hl5, hn5, ht5⟩
  · cases h
  rw [opS_cons, ← strs_append, Nat.mul_one] at ht5
  obtain ⟨hy, hz5⟩ := drop_last ht5 (by rw [strs_len, opS_len]; rfl)
  simp only [List.length_cons, Nat.add_sub_cancel] at hy hz5 hn5 h5e
  have hlo : ¬ (((op.length + 1 : Nat) : Int) = 0) := by omega
  have hwo : IntKind.i64.wrap (((op.length + 1 : Nat) : Int) - 1) = ((op.length : Nat) : Int) := by rw [wrap64 (by omega) (by omega)]; omega
  have ho1 : (0 : Int) ≤ ((op.length : Nat) : Int) := by omega
  have ho2 : ((op.length : Nat) : Int) < ((op.length + 1 : Nat) : Int) := by omega
  have ho3 : ((op.length : Nat) : Int) ≤ ((op.length + 1 : Nat) : Int) := by omega
  have hlm : ¬ (((st.length + 1 + 1 : Nat) : Int) < 2) := by omega
  have hws : IntKind.i64.wrap (((st.length + 1 + 1 : Nat) : Int) - 2) = ((st.length : Nat) : Int) := by rw [wrap64 (by omega) (by omega)]; omega
  have hne5 : ¬ (id5 = nx + 4 + 12 + 8 + 64 + 8) := by omega
  simp only [h20, h21, h22, hsL, hc, hz, hhd, hbe, hen, har, h4, h5e, hσ5, hne5, hlo, hwo, ho1, ho2, ho3, hy, hlm, hws, TMA, List.length_cons, Int.toNat_natCast, Nat.mul_one, Nat.zero_add, cut_w_lo, cut_w_hi, RR, IA, PA, RA0, RA1, RA2, RA3, RA4, RA5, RA6, RA7, RA8, RA9, RA10, Nat.reduceAdd, Nat.reduceMul, Nat.reduceEqDiff, Nat.reduceLeDiff, Nat.reduceLT, Int.reduceToNat, Int.reduceLT, Int.reduceLE, Int.reduceEq, Int.reduceNeg, Int.reduceAdd, Int.reduceSub, Int.reduceMul, reduceIte] at hq
  have hcll : cl.length = st.length + 1 := by rw [hcl.len]; simp
  have hcon : (0 : Int) ≤ ((st.length : Nat) : Int) ∧ ((st.length : Nat) : Int) ≤ ((st.length + 1 + 1 : Nat) : Int) := ⟨by omega, by omega⟩
  have hN2 : st.length + 1 + 1 - st.length = 2 := by omega
  rw [if_pos hcon, hN2] at hq
  obtain ⟨g1, g2, g3⟩ := hI.idn id (by simp)
  obtain ⟨gk1, gk2, gk3⟩ := hI.idn k (by simp)
  obtain ⟨gp1, gp2, gp3⟩ := hI.idn k' (by simp)
  have hkLn := hI.kLn
  have i5 : id ≠ id5 := fun e2 => g3 (by rw [h5e]; simp [own, e2])
  have k5 : k ≠ id5 := fun e2 => gk3 (by rw [h5e]; simp [own, e2])
  have p5 : k' ≠ id5 := fun e2 => gp3 (by rw [h5e]; simp [own, e2])
  have l5 : kL ≠ id5 := fun e2 => hI.o5 (by rw [h5e]; simp [own, e2])
  rw [call_cloned o (by rfl) (by rw [upd, if_neg (by omega), upd, if_neg (by omega)]) (by rw [upd, if_neg (by omega), upd, if_neg (by omega)]) hcl.closed hcl.leaf (by rw [hcll]) (by rw [upd, if_neg (by omega), upd, if_neg (by omega), hσ]; rfl) n1 n2 n3 (by omega) (by omega)] at hq
  generalize hτ : cloneS _ _ _ _ _ _ _ _ _ = τ at hq
  have t1 := (congrFun hτ _).symm.trans (clone_key ..)
  have t2 := (congrFun hτ id).symm.trans (clone_id (by omega))
  have t3 : ∀ j, j ≠ _ → j ≠ id → j ≠ k → j ≠ k' → τ j = _ := fun j h1 h2 h3 h4 => (congrFun hτ j).symm.trans (clone_other h1 h2 h3 h4)
  clear hτ
  have t4 := t3 (nx + 4 + 12 + 8 + 64 + 28 + 8 + 28 + 24 + 20) (by omega) (by omega) (by omega) (by omega)
  rw [upd, if_pos rfl] at t4
  simp only [t4, h4, hws, List.length_cons, cut_w_hi, RR, IA, PA, RA0, RA1, RA2, RA3, RA4, RA5, RA6, RA7, RA8, RA9, RA10, Nat.reduceAdd, Nat.reduceMul, Nat.reduceEqDiff, Nat.reduceLeDiff, Nat.reduceLT, Int.reduceToNat, Int.reduceLT, Int.reduceLE, Int.reduceEq, Int.reduceNeg, Int.reduceAdd, Int.reduceSub, Int.reduceMul, reduceIte] at hq
  rw [if_pos hcon] at hq
  have hall : AllP (cl ++ [o.ptr]) (t :: t1' :: st).reverse := by
    rw [List.reverse_cons]
    exact hcl.app (.cons o.hp .nil)
  have hal : (cl ++ [o.ptr]).length = st.length + 1 + 1 := by rw [hall.len]; simp
  rw [app_part (n' := st.length + 1 + 1) (cs := cl ++ [o.ptr]) (by rw [upd, if_neg (by omega)]; exact t2) (by decide) (by rfl) (by rfl) (by show st.length * 1 ≤ _; rw [hal]; omega) (by omega) (by omega) (by omega)] at hq
  simp only [h22, hw, RR, IA, PA, RA0, RA1, RA2, RA3, RA4, RA5, RA6, RA7, RA8, RA9, RA10, Nat.reduceAdd, Nat.reduceMul, Nat.reduceEqDiff, Nat.reduceLeDiff, Nat.reduceLT, Int.reduceToNat, Int.reduceLT, Int.reduceLE, Int.reduceEq, Int.reduceNeg, Int.reduceAdd, Int.reduceSub, Int.reduceMul, reduceIte] at hq
  have hm : 2 ≤ (t :: t1' :: st).length := by simp
  have hpc := pc_of hall hm
  have hp : IsP (.p [S [c], S [v], .s false 2 (((cl ++ [o.ptr]).drop ((t :: t1' :: st).length - 2)).take 2)]) (.loop c v t1' t) := by
    have hpc2 : AllP (((cl ++ [o.ptr]).drop ((t :: t1' :: st).length - 2)).take 2) [t1', t] := hpc
    obtain ⟨p1, p2, e1, e2, e3⟩ := hpc2.two
    rw [e1]
    exact .loop false c v e2 e3
  refine ⟨_, _, _, [nx + 4 + 12 + 8 + 64 + 28 + 8 + 28 + 24 + 32 + 16 + 44 + 32, nx + 4 + 12 + 8 + 64 + 28 + 8 + 28 + 24 + 20, nx + 4 + 12 + 8 + 64 + 28 + 8 + 28 + 24 + 32 + 16 + 28], hq, ⟨h20, ?_, by omega, h21, rfl, ?_, ?_, ?_, ?_⟩, h0⟩
  · simp only [upd]
    rw [if_neg (by omega), if_neg (by omega), if_neg (by omega), t3 kL (by omega) (by omega) (by omega) (by omega), upd, if_neg (by omega), upd, if_neg (by omega), hsL]
  · change StkOk _ (.w (nx + 4 + 12 + 8 + 64 + 28 + 8 + 28 + 24 + 32 + 16 + 44 + 32) 0 ((t :: t1' :: st).length - 2 + 1)) (.loop c v t1' t :: (t :: t1' :: st).drop 2) _
    refine stk_next (id2 := nx + 4 + 12 + 8 + 64 + 28 + 8 + 28 + 24 + 32 + 16 + 44 + 32) (kb := nx + 4 + 12 + 8 + 64 + 28 + 8 + 28 + 24 + 20) (k2 := nx + 4 + 12 + 8 + 64 + 28 + 8 + 28 + 24 + 32 + 16 + 28) (s := [c]) (v := [v]) (all := cl ++ [o.ptr]) hall hm ?_ ?_ ?_ hp (by omega) (by omega) (by omega)
    · simp only [upd, if_true, Nat.mul_one]
      rfl
    · simp only [upd]
      rw [if_neg (by omega), if_neg (by omega)]
      simp only [if_true]
    · simp only [upd]
      rw [if_neg (by omega), if_neg (by omega), if_neg (by omega), t1]
      rfl
  · refine .inr ⟨id5, n5, cs5, by omega, rfl, ?_, hl5, by omega, by rw [Nat.mul_one]; exact hz5⟩
    simp only [upd]
    rw [if_neg (by omega), if_neg (fun e2 => i5 e2.symm), if_neg (by omega), t3 id5 (by omega) (fun e2 => i5 e2.symm) (fun e2 => k5 e2.symm) (fun e2 => p5 e2.symm), upd, if_neg (by omega), upd, if_neg (by omega), hσ5]
  · intro j hj
    simp only [List.mem_cons, List.not_mem_nil, or_false] at hj
    refine ⟨by omega, by omega, ?_⟩
    show j ∉ [id5]
    simp only [List.mem_singleton]
    omega
  · show kL ∉ [id5]
    simp only [List.mem_singleton]
    exact l5
end
end Go.Proofs.YtkmnidbodlmaaaaDoor.Ev

/-
Code: the implementation's loop over all instructions; TermOf.
-/
namespace Go.Proofs.YtkmnidbodlmaaaaDoor.Ev
section
set_option linter.unusedVariables false
set_option linter.unusedSimpArgs false
open Go Go.RowKit
set_option linter.unusedVariables false
set_option linter.unusedSimpArgs false
theorem TermOf_endfew (kL : Nat) (L : List (List UInt8)) (hL : L.length < 100000000) (x : UInt8) (r : List (List UInt8)) (i n : Nat) (st : List T) (c v : UInt8) (op : List (UInt8 × UInt8)) (ids : List Nat) (e : Nat → AV) (σ : Sto) (nx : Nat) (q : Option (Ex × St))
    (hd : L.drop i = [x] :: r) (hop : op.length + 1 ≤ i) (hI : SI kL L i st ((c, v) :: op) ids e σ nx)
    (hq : roundsE (evC II EE (withOpt [oPl 51] pf) MX (bodyL Tryd.f14 0)) (n + 1) ⟨e, σ, nx⟩ = q) (he : endM [x] = true) (hfew : st.length < 2) :
    ∃ e' σ' nx', q = some (.ret, ⟨e', σ', nx'⟩) ∧ e' 2 = S [] ∧ e' 3 = B false := by
  obtain ⟨hi, hx, hd'⟩ := strs_drop_head hd
  rw [rounds_rd] at hq
  have hc : ((i : Int) < (L.length : Int)) := by omega
  have hz : (0 : Int) ≤ (i : Int) := by omega
  have hhd : ((strs L).drop i).head? = some (S [x]) := by rw [strs_drop, hd]; rfl
  have hw : IntKind.i64.wrap ((i : Int) + 1) = ((i + 1 : Nat) : Int) := by rw [wrap64 (by omega) (by omega)]; rfl
  have h20 := hI.e20
  have h21 := hI.e21
  have h22 := hI.e22
  have hsL := hI.sL
  have h5 := hI.h5
  have hbe : EE 47 [S [x]] = some (B false) := begins_ev [x]
  have hen := isEnd_ev [x]
  rw [he] at hen
  have har := arity_ev x
  have ha := end_ar he
  rw [ha] at har
  simp only [bodyL, bodyOf, Tryd.f14, SA, loops, List.nil_append, List.append_nil, List.cons_append, List.getD_cons_zero, List.getD_cons_succ] at hq
  have hs : ∀ σ', lenK σ' (e 4) (some ⟨.sl 48, 1, 24, [.slice none 0 0]⟩) = some (N st.length, σ') := fun σ' => by
    rcases hI.h4 with ⟨h, rfl, rfl⟩ | ⟨id, k, k', cl, t, r, o, rfl, h2, h3, _⟩
    · rw [h]; rfl
    · rw [h2]; rfl
  rcases h5 with ⟨_, h, _⟩ | ⟨id5, n5, cs5, hid5, h5e, hσ5, hl5, hn5, ht5⟩
  · cases h
  rw [opS_cons, ← strs_append, Nat.mul_one] at ht5
  obtain ⟨hy, hz5⟩ := drop_last ht5 (by rw [strs_len, opS_len]; rfl)
  simp only [List.length_cons, Nat.add_sub_cancel] at hy hz5 hn5 h5e
  have hlo : ¬ (((op.length + 1 : Nat) : Int) = 0) := by omega
  have hwo : IntKind.i64.wrap (((op.length + 1 : Nat) : Int) - 1) = ((op.length : Nat) : Int) := by rw [wrap64 (by omega) (by omega)]; omega
  have ho1 : (0 : Int) ≤ ((op.length : Nat) : Int) := by omega
  have ho2 : ((op.length : Nat) : Int) < ((op.length + 1 : Nat) : Int) := by omega
  have ho3 : ((op.length : Nat) : Int) ≤ ((op.length + 1 : Nat) : Int) := by omega
  have hlm : ((st.length : Int) < 2) := by omega
  have hne5 : ¬ (id5 = nx + 4 + 12 + 8 + 64 + 8) := by omega
  simp only [h20, h21, h22, hsL, hc, hz, hhd, hbe, hen, har, hs, h5e, hσ5, hne5, hlo, hwo, ho1, ho2, ho3, hy, hlm, TMA, List.length_cons, Int.toNat_natCast, Nat.mul_one, Nat.zero_add, cut_w_lo, cut_w_hi, RR, IA, PA, RA0, RA1, RA2, RA3, RA4, RA5, RA6, RA7, RA8, RA9, RA10, Nat.reduceAdd, Nat.reduceMul, Nat.reduceEqDiff, Nat.reduceLeDiff, Nat.reduceLT, Int.reduceToNat, Int.reduceLT, Int.reduceLE, Int.reduceEq, Int.reduceNeg, Int.reduceAdd, Int.reduceSub, Int.reduceMul, reduceIte] at hq
  exact ⟨_, _, _, hq.symm, rfl, rfl⟩
theorem arM_le (x : UInt8) : ∃ m : Nat, arM [x] = (m : Int) ∧ m ≤ 2 ∧ (isOne x = true → m = 1) ∧ (isOne x = false → isTwo x = true → m = 2) ∧ (isOne x = false → isTwo x = false → m = 0) := by
  cases h1 : isOne x
  · cases h2 : isTwo x
    · exact ⟨0, by simp [arM, h1, h2], by omega, by simp, by simp, by simp⟩
    · exact ⟨2, by simp [arM, h1, h2], by omega, by simp, by simp, by simp⟩
  · exact ⟨1, by simp [arM, h1], by omega, by simp, by simp, by simp⟩
theorem TermOf_loop (kL : Nat) (L : List (List UInt8)) (hL : L.length < 100000000) (av : AV) : ∀ (r : List (List UInt8)) (i n : Nat) (st : List T) (op : List (UInt8 × UInt8)) (ids : List Nat) (e : Nat → AV) (σ : Sto) (nx : Nat) (q : Option (Ex × St)),
    L.drop i = r → i ≤ L.length → r.length < n → st.length ≤ i → op.length ≤ i → SI kL L i st op ids e σ nx → e 0 = av →
    roundsE (evC II EE (withOpt [oPl 51] pf) MX (bodyL Tryd.f14 0)) n ⟨e, σ, nx⟩ = q → SR kL L av q (runI r st op) := by
  intro r
  induction r with
  | nil =>
    intro i n st op ids e σ nx q hd hiL hn hst hop hI h0 hq
    have hlen : L.length ≤ i := by simpa using hd
    have hiE : i = L.length := by omega
    subst hiE
    obtain ⟨k, rfl⟩ : ∃ k, n = k + 1 := ⟨n - 1, by omega⟩
    rw [rounds_rd] at hq
    have hc : ¬ ((L.length : Int) < (L.length : Int)) := by omega
    have h21 := hI.e21
    have h22 := hI.e22
    simp only [bodyL, bodyOf, Tryd.f14, SA, loops, List.nil_append, List.append_nil, List.cons_append, List.getD_cons_zero, List.getD_cons_succ] at hq
    simp only [h21, h22, hc, RR, IA, PA, RA0, RA1, RA2, RA3, RA4, RA5, RA6, RA7, RA8, RA9, RA10, Nat.reduceAdd, Nat.reduceMul, Nat.reduceEqDiff, Nat.reduceLeDiff, Nat.reduceLT, Int.reduceToNat, Int.reduceLT, Int.reduceLE, Int.reduceEq, Int.reduceNeg, Int.reduceAdd, Int.reduceSub, Int.reduceMul, reduceIte] at hq
    have hkLn := hI.kLn
    exact ⟨_, _, _, ids, hq.symm, ⟨hI.e20, hI.sL, by omega, h21, h22, hI.h4, hI.h5.frame (fun _ _ => rfl) (by omega), fun j hj => by
      have := hI.idn j hj
      exact ⟨by omega, this.2.1, this.2.2⟩, hI.o5⟩, h0⟩
  | cons x r ih =>
    intro i n st op ids e σ nx q hd hiL hn hst hop hI h0 hq
    obtain ⟨hi, hx, hd'⟩ := strs_drop_head hd
    obtain ⟨k, rfl⟩ : ∃ k, n = k + 1 := ⟨n - 1, by omega⟩
    have hk : r.length < k := by simpa using hn
    cases hb : begM x
    · rcases x with _ | ⟨a, _ | ⟨b, x⟩⟩
      · simp only [runI, doI]
        exact TermOf_bad kL L hL [] r i k st op ids e σ nx q hd hop hI hq hb (.inl rfl)
      · cases he : endM [a]
        · have hne : ¬ (a = 93 ∨ a = 125) := by simpa [endM] using he
          obtain ⟨m, ha, hm2, hm1, hmt, hm0⟩ := arM_le a
          simp only [runI, doI, if_neg hne]
          have step : ∀ (t' : T), m ≤ st.length → (∀ pc, AllP pc (st.take m).reverse → IsP (.p [S [a], S [], .s false m pc]) t') → SR kL L av q (runI r (t' :: st.drop m) op) := by
            intro t' hm hp
            by_cases hs : st = []
            · subst hs
              have hm00 : m = 0 := by simpa using hm
              subst hm00
              obtain ⟨e', σ', nx', ids', h1, h2, h3⟩ := TermOf_first kL L hL a r i k op ids e σ nx q av hd hI h0 hq he ha t' (hp [] (by simpa using AllP.nil))
              exact ih (i + 1) k _ _ _ _ _ _ q hd' (by omega) hk (by simp) (by omega) h2 h3 h1
            · obtain ⟨e', σ', nx', ids', h1, h2, h3⟩ := TermOf_one kL L hL a r i k st op ids e σ nx q av hd hst hop hI h0 hq he m ha hm hm2 hs t' hp
              exact ih (i + 1) k _ _ _ _ _ _ q hd' (by omega) hk (by simp only [List.length_cons, List.length_drop]; omega) (by omega) h2 h3 h1
          cases h1 : isOne a
          · cases h2 : isTwo a
            · obtain rfl := hm0 h1 h2
              simp only [Bool.false_eq_true, if_false]
              refine step (leafI a) (Nat.zero_le _) fun pc hpc => ?_
              have : pc = [] := by simpa using (by simpa using hpc : AllP pc []).none
              subst this
              unfold leafI
              split
              · exact .dig false a
              · exact .var false a
            · obtain rfl := hmt h1 h2
              simp only [Bool.false_eq_true, if_false, if_true]
              match st, hst, hI, step with
              | [], hst, hI, step => exact TermOf_few kL L hL a r i k [] op ids e σ nx q hd hst hI hq he 2 ha (by simp)
              | [t], hst, hI, step => exact TermOf_few kL L hL a r i k [t] op ids e σ nx q hd hst hI hq he 2 ha (by simp)
              | t :: u :: st, hst, hI, step =>
                refine step (.two a u t) (by simp) fun pc hpc => ?_
                obtain ⟨p1, p2, rfl, e2, e3⟩ := AllP.two (by simpa using hpc)
                exact .two false a e2 e3
          · obtain rfl := hm1 h1
            simp only [if_true]
            match st, hst, hI, step with
            | [], hst, hI, step => exact TermOf_few kL L hL a r i k [] op ids e σ nx q hd hst hI hq he 1 ha (by simp)
            | t :: st, hst, hI, step =>
              refine step (.one a t) (by simp) fun pc hpc => ?_
              obtain ⟨p1, rfl, e2⟩ := AllP.one (by simpa using hpc)
              exact .one false a e2
        · have hee : a = 93 ∨ a = 125 := by simpa [endM] using he
          simp only [runI, doI, if_pos hee]
          cases op with
          | nil => exact TermOf_bad kL L hL [a] r i k st [] ids e σ nx q hd hop hI hq hb (.inr (.inr ⟨a, rfl, he, rfl⟩))
          | cons cv op =>
            obtain ⟨c, v⟩ := cv
            simp only [List.length_cons] at hop
            match st, hst, hI with
            | [], hst, hI => exact TermOf_endfew kL L hL a r i k [] c v op ids e σ nx q hd hop hI hq he (by simp)
            | [t], hst, hI => exact TermOf_endfew kL L hL a r i k [t] c v op ids e σ nx q hd hop hI hq he (by simp)
            | t :: u :: st, hst, hI =>
              obtain ⟨e', σ', nx', ids', h1, h2, h3⟩ := TermOf_end kL L hL a r i k t u st c v op ids e σ nx q av hd (by simpa using hst) hop hI h0 hq he
              exact ih (i + 1) k _ _ _ _ _ _ q hd' (by omega) hk (by simp only [List.length_cons] at hst ⊢; omega) (by omega) h2 h3 h1
      · have hd2 : doI (a :: b :: x) st op = none := by
          cases x with
          | nil =>
            have : ¬ (a = 91 ∨ a = 123) := by simpa [begM] using hb
            simp only [doI, if_neg this]
          | cons y x => rfl
        simp only [runI, hd2]
        exact TermOf_bad kL L hL (a :: b :: x) r i k st op ids e σ nx q hd hop hI hq hb (.inr (.inl (by simp)))
    · obtain ⟨a, v, e', σ', nx', rfl, hav, h1, h2, h3⟩ := TermOf_beg kL L hL x r i k st op ids e σ nx q av hd hop hI h0 hq hb
      simp only [runI, doI, if_pos hav]
      exact ih (i + 1) k _ _ _ _ _ _ q hd' (by omega) hk (by omega) (by simp only [List.length_cons]; omega) h2 h3 h1
end
end Go.Proofs.YtkmnidbodlmaaaaDoor.Ev

/-
Code: the implementation's TermOf, CodeValid, InstructionsOf.
-/
namespace Go.Proofs.YtkmnidbodlmaaaaDoor.Ev
section
set_option linter.unusedVariables false
set_option linter.unusedSimpArgs false
open Go Go.RowKit
set_option linter.unusedVariables false
set_option linter.unusedSimpArgs false
theorem call_text {σ : Sto} {key k k' : Nat} {t : T} (o : Obj1 σ k k' t) (hw : WFL t) (hl : (textT t).length ≤ 1000000) :
    callOp EE (withOpt [oPl 51] pf) σ key 51 [.r k 0] = some (S (textT t), σ) := by
  have hp : withOpt [oPl 51] pf 51 = 0 := withOpt_pl_on (by decide) (by rfl)
  unfold callOp
  rw [if_neg (by rw [hp]; decide), if_neg (by rw [hp]; decide)]
  have h2 : deepC (deep σ 8) [.r k 0] = some ([o.ptr], [k, k']) := by
    simp only [deepC, o.deep 5, Option.bind_some, Option.map_some, List.append_nil]
  rw [h2]
  have h3 := text_evL o.hp hw hl
  simp only [Option.bind_some, Obj1.ptr, h3]
  rw [if_pos (.inr (by rfl))]
  rfl
theorem implTermOf_ev (code : List UInt8) (hl : code.length < 50000000) : EE 14 [S code] = some (match implB code with | some t => .t [S (textT t), B true] | none => .t [S [], B false]) := by
  refine EE_plain T_implTermOf (by decide) (Nat.le_of_ble_eq_true rfl) rfl ?_
  rw [show opt 14 = [oPl 51] from rfl]
  simp only [bodyOf, Tryd.f14, SA]
  by_cases h200 : 200 < code.length
  · have hc : ((200 : Int) < (code.length : Int)) := by omega
    simp only [implB, h200, hc, TMA, RR, IA, PA, RA0, RA1, RA2, RA3, RA4, RA5, RA6, RA7, RA8, RA9, RA10, Nat.reduceAdd, Nat.reduceMul, Nat.reduceEqDiff, Nat.reduceLeDiff, Nat.reduceLT, Int.reduceToNat, Int.reduceLT, Int.reduceLE, Int.reduceEq, Int.reduceNeg, Int.reduceAdd, Int.reduceSub, Int.reduceMul, reduceIte]
  · have hc : ¬ ((200 : Int) < (code.length : Int)) := by omega
    have hsp := split_ev code 32 (by omega)
    have hcl := cutL_len 32 code
    simp only [hc, hsp, strs_closed, TMA, RR, IA, PA, RA0, RA1, RA2, RA3, RA4, RA5, RA6, RA7, RA8, RA9, RA10, Nat.reduceAdd, Nat.reduceMul, Nat.reduceEqDiff, Nat.reduceLeDiff, Nat.reduceLT, Int.reduceToNat, Int.reduceLT, Int.reduceLE, Int.reduceEq, Int.reduceNeg, Int.reduceAdd, Int.reduceSub, Int.reduceMul, reduceIte]
    generalize hq : roundsE _ _ _ = q
    have hloop := TermOf_loop 40 (cutL 32 code) (by omega) (S code) (cutL 32 code) 0 MX [] [] [] _ _ _ q rfl (Nat.zero_le _) (lt_MX (by omega)) (Nat.le_refl _) (Nat.le_refl _) ⟨rfl, rfl, by decide, rfl, rfl, .inl ⟨rfl, rfl, rfl⟩, .inl ⟨rfl, rfl, rfl⟩, fun j hj => absurd hj List.not_mem_nil, by show 40 ∉ []; simp⟩ rfl hq
    clear hq
    cases hr : runI (cutL 32 code) [] [] with
    | none =>
      rw [hr] at hloop
      obtain ⟨e', σ', nx', rfl, h2, h3⟩ := hloop
      simp only [implB, h200, hr, h2, h3, TMA, RR, IA, PA, RA0, RA1, RA2, RA3, RA4, RA5, RA6, RA7, RA8, RA9, RA10, Nat.reduceAdd, Nat.reduceMul, Nat.reduceEqDiff, Nat.reduceLeDiff, Nat.reduceLT, Int.reduceToNat, Int.reduceLT, Int.reduceLE, Int.reduceEq, Int.reduceNeg, Int.reduceAdd, Int.reduceSub, Int.reduceMul, reduceIte]
    | some w =>
      obtain ⟨st, op⟩ := w
      rw [hr] at hloop
      obtain ⟨e', σ', nx', ids, rfl, hI, h0⟩ := hloop
      have hls : ∀ σ', lenK σ' (e' 4) (some ⟨.sl 48, 1, 24, [.slice none 0 0]⟩) = some (N st.length, σ') := fun σ' => by
        rcases hI.h4 with ⟨h, rfl, rfl⟩ | ⟨id, k, k', cl, t, r, o, rfl, h2, h3, _⟩
        · rw [h]; rfl
        · rw [h2]; rfl
      by_cases hn1 : st.length = 1
      · by_cases ho0 : op = []
        · subst ho0
          obtain ⟨t, rfl⟩ : ∃ t, st = [t] := by
            match st, hn1 with
            | [t], _ => exact ⟨t, rfl⟩
          rcases hI.h4 with ⟨_, h, _⟩ | ⟨id, k, k', cl, t0, r0, o, hst0, h4, hσ, hcl2, rfl, n1, n2, n3⟩
          · cases h
          cases hst0
          have hcl0 : cl = [] := by simpa using hcl2.none
          subst hcl0
          have hwl := (runI_l hr (fun t h => absurd h List.not_mem_nil) (fun q h => absurd h List.not_mem_nil)).1 t (by simp)
          have hsz := runI_sz hr
          have hsz2 : (textT t).length ≤ 5 * (cutL 32 code).length := by simpa [szT] using hsz
          have hco := implCodeOf_ev (textT t) (by omega)
          simp only [List.nil_append] at hσ
          simp only [h4, hσ, len_lsp hI.h5, List.length_nil, List.length_cons, TMA, RR, IA, PA, RA0, RA1, RA2, RA3, RA4, RA5, RA6, RA7, RA8, RA9, RA10, Nat.reduceAdd, Nat.reduceMul, Nat.reduceEqDiff, Nat.reduceLeDiff, Nat.reduceLT, Int.reduceToNat, Int.reduceLT, Int.reduceLE, Int.reduceEq, Int.reduceNeg, Int.reduceAdd, Int.reduceSub, Int.reduceMul, reduceIte]
          rw [call_text o hwl (by omega)]
          have himp : implB code = if codeT (textT t) = some code then some t else none := by
            unfold implB
            rw [if_neg h200, hr]
          cases hcd : codeT (textT t) with
          | none =>
            rw [hcd] at hco
            simp only at hco
            rw [himp, hcd, if_neg (by intro h; cases h)]
            simp only [hco, adopt_two (show closed (S []) = true from rfl) (show closed (B false) = true from rfl), TMA, RR, IA, PA, RA0, RA1, RA2, RA3, RA4, RA5, RA6, RA7, RA8, RA9, RA10, Nat.reduceAdd, Nat.reduceMul, Nat.reduceEqDiff, Nat.reduceLeDiff, Nat.reduceLT, Int.reduceToNat, Int.reduceLT, Int.reduceLE, Int.reduceEq, Int.reduceNeg, Int.reduceAdd, Int.reduceSub, Int.reduceMul, reduceIte]
          | some c =>
            rw [hcd] at hco
            simp only at hco
            rw [himp, hcd]
            have hcA : ∀ (σ : Sto) (key : Nat), adopt σ key (.t [S c, B true]) = some (.t [S c, B true], σ) := fun σ key => adopt_two rfl rfl
            by_cases hcc : c = code
            · subst hcc
              have e1 : (c == c) = true := by simp
              simp only [hco, hcA, h0, e1, TMA, RR, IA, PA, RA0, RA1, RA2, RA3, RA4, RA5, RA6, RA7, RA8, RA9, RA10, Nat.reduceAdd, Nat.reduceMul, Nat.reduceEqDiff, Nat.reduceLeDiff, Nat.reduceLT, Int.reduceToNat, Int.reduceLT, Int.reduceLE, Int.reduceEq, Int.reduceNeg, Int.reduceAdd, Int.reduceSub, Int.reduceMul, reduceIte]
            · have e1 : (c == code) = false := by simp [hcc]
              rw [if_neg (by intro h; exact hcc (Option.some.inj h))]
              simp only [hco, hcA, h0, e1, TMA, RR, IA, PA, RA0, RA1, RA2, RA3, RA4, RA5, RA6, RA7, RA8, RA9, RA10, Nat.reduceAdd, Nat.reduceMul, Nat.reduceEqDiff, Nat.reduceLeDiff, Nat.reduceLT, Int.reduceToNat, Int.reduceLT, Int.reduceLE, Int.reduceEq, Int.reduceNeg, Int.reduceAdd, Int.reduceSub, Int.reduceMul, reduceIte]
        · have himp : implB code = none := by
            unfold implB
            rw [if_neg h200, hr]
            obtain ⟨t, rfl⟩ : ∃ t, st = [t] := by
              match st, hn1 with
              | [t], _ => exact ⟨t, rfl⟩
            cases op with
            | nil => exact absurd rfl ho0
            | cons q l => rfl
          have hon : ((0 : Int) < (op.length : Int)) := by
            have : op.length ≠ 0 := by simpa using ho0
            omega
          have hd1 : ((st.length : Int) = 1) := by omega
          rw [himp]
          simp only [hls, hd1, hon, len_lsp hI.h5, TMA, RR, IA, PA, RA0, RA1, RA2, RA3, RA4, RA5, RA6, RA7, RA8, RA9, RA10, Nat.reduceAdd, Nat.reduceMul, Nat.reduceEqDiff, Nat.reduceLeDiff, Nat.reduceLT, Int.reduceToNat, Int.reduceLT, Int.reduceLE, Int.reduceEq, Int.reduceNeg, Int.reduceAdd, Int.reduceSub, Int.reduceMul, reduceIte]
      · have himp : implB code = none := by
          unfold implB
          rw [if_neg h200, hr]
          match st, hn1 with
          | [], _ => rfl
          | x :: y :: l, _ => rfl
        have hd1 : ¬ ((st.length : Int) = 1) := by omega
        rw [himp]
        simp only [hls, hd1, TMA, RR, IA, PA, RA0, RA1, RA2, RA3, RA4, RA5, RA6, RA7, RA8, RA9, RA10, Nat.reduceAdd, Nat.reduceMul, Nat.reduceEqDiff, Nat.reduceLeDiff, Nat.reduceLT, Int.reduceToNat, Int.reduceLT, Int.reduceLE, Int.reduceEq, Int.reduceNeg, Int.reduceAdd, Int.reduceSub, Int.reduceMul, reduceIte]
end
end Go.Proofs.YtkmnidbodlmaaaaDoor.Ev

/-
Code: the laws of TermOf and CodeValid.
-/
namespace Go.Proofs.YtkmnidbodlmaaaaDoor.Ev
section
set_option linter.unusedVariables false
set_option linter.unusedSimpArgs false
open Go Go.RowKit
set_option linter.unusedVariables false
set_option linter.unusedSimpArgs false
theorem adopt_sb (σ : Sto) (key : Nat) (l : List UInt8) (b : Bool) : adopt σ key (.t [S l, B b]) = some (.t [S l, B b], σ) := adopt_two rfl rfl
theorem T_implCodeValid : TT 16 = some (Tryd.f16, bodyOf Tryd.f16) := by kernel_rfl
theorem implCodeValid_ev (code : List UInt8) (hl : code.length < 50000000) : EE 16 [S code] = some (B (specB code).isSome) := by
  refine EE_plain T_implCodeValid (by decide) (Nat.le_of_ble_eq_true rfl) rfl ?_
  rw [show opt 16 = [] from rfl]
  simp only [bodyOf, Tryd.f16, SA]
  have h := implTermOf_ev code hl
  rw [impl_eq] at h
  cases hs : specB code with
  | none =>
    rw [hs] at h
    simp only [Option.map_none] at h
    simp only [h, adopt_sb, RR, IA, PA, RA0, RA1, RA2, RA3, RA4, RA5, RA6, RA7, RA8, RA9, RA10, Nat.reduceAdd, Nat.reduceMul, Nat.reduceEqDiff, Nat.reduceLeDiff, Nat.reduceLT, Int.reduceToNat, Int.reduceLT, Int.reduceLE, Int.reduceEq, Int.reduceNeg, Int.reduceAdd, Int.reduceSub, Int.reduceMul, reduceIte]
    rfl
  | some w =>
    obtain ⟨t, hh, lv⟩ := w
    rw [hs] at h
    simp only [Option.map_some] at h
    simp only [h, adopt_sb, RR, IA, PA, RA0, RA1, RA2, RA3, RA4, RA5, RA6, RA7, RA8, RA9, RA10, Nat.reduceAdd, Nat.reduceMul, Nat.reduceEqDiff, Nat.reduceLeDiff, Nat.reduceLT, Int.reduceToNat, Int.reduceLT, Int.reduceLE, Int.reduceEq, Int.reduceNeg, Int.reduceAdd, Int.reduceSub, Int.reduceMul, reduceIte]
    rfl
theorem T_lawTermOf : TT 3 = some (Tryd.f3, bodyOf Tryd.f3) := by kernel_rfl
theorem termOf_law (code : List UInt8) : EE 3 [S code] = some (B true) := by
  refine EE_plain T_lawTermOf (by decide) (Nat.le_of_ble_eq_true rfl) rfl ?_
  rw [show opt 3 = [] from rfl]
  simp only [bodyOf, Tryd.f3, SA]
  by_cases hbig : (1048576 : Int) < (code.length : Int)
  · simp only [hbig, RR, IA, PA, RA0, RA1, RA2, RA3, RA4, RA5, RA6, RA7, RA8, RA9, RA10, Nat.reduceAdd, Nat.reduceMul, Nat.reduceEqDiff, Nat.reduceLeDiff, Nat.reduceLT, Int.reduceToNat, Int.reduceLT, Int.reduceLE, Int.reduceEq, Int.reduceNeg, Int.reduceAdd, Int.reduceSub, Int.reduceMul, reduceIte]
  · have hl : code.length < 50000000 := by omega
    have h := implTermOf_ev code hl
    have k := specTermOf_ev code hl
    rw [impl_eq] at h
    cases hs : specB code with
    | none =>
      rw [hs] at h k
      simp only [Option.map_none] at h k
      simp only [hbig, h, k, adopt_sb, TMA, RR, IA, PA, RA0, RA1, RA2, RA3, RA4, RA5, RA6, RA7, RA8, RA9, RA10, Nat.reduceAdd, Nat.reduceMul, Nat.reduceEqDiff, Nat.reduceLeDiff, Nat.reduceLT, Int.reduceToNat, Int.reduceLT, Int.reduceLE, Int.reduceEq, Int.reduceNeg, Int.reduceAdd, Int.reduceSub, Int.reduceMul, reduceIte]
    | some w =>
      obtain ⟨t, hh, lv⟩ := w
      rw [hs] at h k
      simp only [Option.map_some] at h k
      simp only [hbig, h, k, adopt_sb, TMA, RR, IA, PA, RA0, RA1, RA2, RA3, RA4, RA5, RA6, RA7, RA8, RA9, RA10, Nat.reduceAdd, Nat.reduceMul, Nat.reduceEqDiff, Nat.reduceLeDiff, Nat.reduceLT, Int.reduceToNat, Int.reduceLT, Int.reduceLE, Int.reduceEq, Int.reduceNeg, Int.reduceAdd, Int.reduceSub, Int.reduceMul, reduceIte]
theorem T_lawCodeValid : TT 4 = some (Tryd.f4, bodyOf Tryd.f4) := by kernel_rfl
theorem codeValid_law (code : List UInt8) : EE 4 [S code] = some (B true) := by
  refine EE_plain T_lawCodeValid (by decide) (Nat.le_of_ble_eq_true rfl) rfl ?_
  rw [show opt 4 = [] from rfl]
  simp only [bodyOf, Tryd.f4, SA]
  by_cases hbig : (1048576 : Int) < (code.length : Int)
  · simp only [hbig, RR, IA, PA, RA0, RA1, RA2, RA3, RA4, RA5, RA6, RA7, RA8, RA9, RA10, Nat.reduceAdd, Nat.reduceMul, Nat.reduceEqDiff, Nat.reduceLeDiff, Nat.reduceLT, Int.reduceToNat, Int.reduceLT, Int.reduceLE, Int.reduceEq, Int.reduceNeg, Int.reduceAdd, Int.reduceSub, Int.reduceMul, reduceIte]
  · have hl : code.length < 50000000 := by omega
    have h := implCodeValid_ev code hl
    have k := specCodeValid_ev code hl
    cases hs : (specB code).isSome
    all_goals
      rw [hs] at h k
      simp only [hbig, h, k, TMA, RR, IA, PA, RA0, RA1, RA2, RA3, RA4, RA5, RA6, RA7, RA8, RA9, RA10, Nat.reduceAdd, Nat.reduceMul, Nat.reduceEqDiff, Nat.reduceLeDiff, Nat.reduceLT, Int.reduceToNat, Int.reduceLT, Int.reduceLE, Int.reduceEq, Int.reduceNeg, Int.reduceAdd, Int.reduceSub, Int.reduceMul, reduceIte]
end
end Go.Proofs.YtkmnidbodlmaaaaDoor.Ev

/-
Laws: comparing lists of numbers and of texts; marks.
-/
namespace Go.Proofs.YtkmnidbodlmaaaaDoor.Ev
section
set_option linter.unusedVariables false
set_option linter.unusedSimpArgs false
open Go Go.RowKit
set_option linter.unusedVariables false
set_option linter.unusedSimpArgs false
theorem T_eqIntS : TT 19 = some (Tryd.f19, bodyOf Tryd.f19) := by kernel_rfl
/-- Two slices of the same numbers. -/
theorem eqIntS_loop (x y : Bool) (L : List Int) (hL : L.length < 4611686018427387904) : ∀ (r : List Int) (i n : Nat) (e : Nat → AV) (σ : Sto) (nx : Nat) (q : Option (Ex × St)),
    L.drop i = r → r.length < n → roundsE (evC II EE (withOpt [] pf) MX (bodyL Tryd.f19 0)) n ⟨e, σ, nx⟩ = q → e 0 = .s x L.length (ints L) → e 1 = .s y L.length (ints L) → e 5 = N i →
    ∃ e' nx', q = some (.exit 0, ⟨e', σ, nx'⟩) := by
  intro r
  induction r with
  | nil =>
    intro i n e σ nx q hd hn hq h0 h1 h5
    have hlen : L.length ≤ i := by simpa using hd
    obtain ⟨k, rfl⟩ : ∃ k, n = k + 1 := ⟨n - 1, by omega⟩
    rw [rounds_rd] at hq
    have hc : ¬ ((i : Int) < (L.length : Int)) := by omega
    simp only [bodyL, bodyOf, Tryd.f19, SA, loops, List.nil_append, List.append_nil, List.cons_append, List.getD_cons_zero, List.getD_cons_succ] at hq
    simp only [h0, h1, h5, hc, IA, PA, RA0, RA1, RA2, RA3, RA4, RA5, RA6, RA7, RA8, RA9, RA10, Nat.reduceAdd, Nat.reduceMul, Nat.reduceEqDiff, Nat.reduceLeDiff, Nat.reduceLT, Int.reduceToNat, Int.reduceLT, Int.reduceLE, Int.reduceEq, Int.reduceNeg, Int.reduceAdd, Int.reduceSub, Int.reduceMul, reduceIte] at hq
    exact ⟨_, _, hq.symm⟩
  | cons z r ih =>
    intro i n e σ nx q hd hn hq h0 h1 h5
    have hi : i < L.length := by
      rcases Nat.lt_or_ge i L.length with h2 | h2
      · exact h2
      · rw [List.drop_eq_nil_of_le h2] at hd; cases hd
    have hd' : L.drop (i + 1) = r := by
      have : (L.drop i).drop 1 = r := by rw [hd]; rfl
      simpa [List.drop_drop] using this
    obtain ⟨k, rfl⟩ : ∃ k, n = k + 1 := ⟨n - 1, by omega⟩
    rw [rounds_rd] at hq
    have hc : ((i : Int) < (L.length : Int)) := by omega
    have hz : (0 : Int) ≤ (i : Int) := by omega
    have hw : IntKind.i64.wrap ((i : Int) + 1) = ((i + 1 : Nat) : Int) := by rw [wrap64 (by omega) (by omega)]; rfl
    have hhd : ((ints L).drop i).head? = some (N z) := by rw [ints_drop, hd]; rfl
    simp only [bodyL, bodyOf, Tryd.f19, SA, loops, List.nil_append, List.append_nil, List.cons_append, List.getD_cons_zero, List.getD_cons_succ] at hq
    simp only [h0, h1, h5, hc, hz, hw, hhd, Int.toNat_natCast, Nat.mul_one, RR, IA, PA, RA0, RA1, RA2, RA3, RA4, RA5, RA6, RA7, RA8, RA9, RA10, Nat.reduceAdd, Nat.reduceMul, Nat.reduceEqDiff, Nat.reduceLeDiff, Nat.reduceLT, Int.reduceToNat, Int.reduceLT, Int.reduceLE, Int.reduceEq, Int.reduceNeg, Int.reduceAdd, Int.reduceSub, Int.reduceMul, reduceIte] at hq
    exact ih (i + 1) k _ σ _ q hd' (by simpa using hn) hq h0 h1 rfl
theorem eqIntS_ev (x y : Bool) (L : List Int) (hL : L.length < 4611686018427387904) : EE 19 [.s x L.length (ints L), .s y L.length (ints L)] = some (B true) := by
  refine EE_plain T_eqIntS (by decide) (Nat.le_of_ble_eq_true rfl) (by simp only [closedL, closed, ints_closed, Bool.and_self]) ?_
  rw [show opt 19 = [] from rfl]
  simp only [bodyOf, Tryd.f19, SA]
  have hee : (((L.length : Int) = (L.length : Int)) = True) := eq_self _
  simp only [hee, RR, IA, PA, RA0, RA1, RA2, RA3, RA4, RA5, RA6, RA7, RA8, RA9, RA10, Nat.reduceAdd, Nat.reduceMul, Nat.reduceEqDiff, Nat.reduceLeDiff, Nat.reduceLT, Int.reduceToNat, Int.reduceLT, Int.reduceLE, Int.reduceEq, Int.reduceNeg, Int.reduceAdd, Int.reduceSub, Int.reduceMul, reduceIte]
  generalize hq : roundsE _ _ _ = q
  obtain ⟨e', nx', rfl⟩ := eqIntS_loop x y L hL L 0 MX _ _ _ q rfl (lt_MX (by omega)) hq rfl rfl rfl
  simp only [RR, IA, PA, RA0, RA1, RA2, RA3, RA4, RA5, RA6, RA7, RA8, RA9, RA10, Nat.reduceAdd, Nat.reduceMul, Nat.reduceEqDiff, Nat.reduceLeDiff, Nat.reduceLT, Int.reduceToNat, Int.reduceLT, Int.reduceLE, Int.reduceEq, Int.reduceNeg, Int.reduceAdd, Int.reduceSub, Int.reduceMul, reduceIte]
theorem T_eqStringS : TT 26 = some (Tryd.f26, bodyOf Tryd.f26) := by kernel_rfl
theorem eqStringS_loop (x y : Bool) (L : List (List UInt8)) (hL : L.length < 4611686018427387904) : ∀ (r : List (List UInt8)) (i n : Nat) (e : Nat → AV) (σ : Sto) (nx : Nat) (q : Option (Ex × St)),
    L.drop i = r → r.length < n → roundsE (evC II EE (withOpt [] pf) MX (bodyL Tryd.f26 0)) n ⟨e, σ, nx⟩ = q → e 0 = .s x L.length (strs L) → e 1 = .s y L.length (strs L) → e 5 = N i →
    ∃ e' nx', q = some (.exit 0, ⟨e', σ, nx'⟩) := by
  intro r
  induction r with
  | nil =>
    intro i n e σ nx q hd hn hq h0 h1 h5
    have hlen : L.length ≤ i := by simpa using hd
    obtain ⟨k, rfl⟩ : ∃ k, n = k + 1 := ⟨n - 1, by omega⟩
    rw [rounds_rd] at hq
    have hc : ¬ ((i : Int) < (L.length : Int)) := by omega
    simp only [bodyL, bodyOf, Tryd.f26, SA, loops, List.nil_append, List.append_nil, List.cons_append, List.getD_cons_zero, List.getD_cons_succ] at hq
    simp only [h0, h1, h5, hc, IA, PA, RA0, RA1, RA2, RA3, RA4, RA5, RA6, RA7, RA8, RA9, RA10, Nat.reduceAdd, Nat.reduceMul, Nat.reduceEqDiff, Nat.reduceLeDiff, Nat.reduceLT, Int.reduceToNat, Int.reduceLT, Int.reduceLE, Int.reduceEq, Int.reduceNeg, Int.reduceAdd, Int.reduceSub, Int.reduceMul, reduceIte] at hq
    exact ⟨_, _, hq.symm⟩
  | cons z r ih =>
    intro i n e σ nx q hd hn hq h0 h1 h5
    obtain ⟨hi, hx, hd'⟩ := strs_drop_head hd
    obtain ⟨k, rfl⟩ : ∃ k, n = k + 1 := ⟨n - 1, by omega⟩
    rw [rounds_rd] at hq
    have hc : ((i : Int) < (L.length : Int)) := by omega
    have hz : (0 : Int) ≤ (i : Int) := by omega
    have hw : IntKind.i64.wrap ((i : Int) + 1) = ((i + 1 : Nat) : Int) := by rw [wrap64 (by omega) (by omega)]; rfl
    have hhd : ((strs L).drop i).head? = some (S z) := by rw [strs_drop, hd]; rfl
    have he : (z == z) = true := by simp
    simp only [bodyL, bodyOf, Tryd.f26, SA, loops, List.nil_append, List.append_nil, List.cons_append, List.getD_cons_zero, List.getD_cons_succ] at hq
    simp only [h0, h1, h5, hc, hz, hw, hhd, he, Int.toNat_natCast, Nat.mul_one, RR, IA, PA, RA0, RA1, RA2, RA3, RA4, RA5, RA6, RA7, RA8, RA9, RA10, Nat.reduceAdd, Nat.reduceMul, Nat.reduceEqDiff, Nat.reduceLeDiff, Nat.reduceLT, Int.reduceToNat, Int.reduceLT, Int.reduceLE, Int.reduceEq, Int.reduceNeg, Int.reduceAdd, Int.reduceSub, Int.reduceMul, reduceIte] at hq
    exact ih (i + 1) k _ σ _ q hd' (by simpa using hn) hq h0 h1 rfl
theorem eqStringS_ev (x y : Bool) (L : List (List UInt8)) (hL : L.length < 4611686018427387904) : EE 26 [.s x L.length (strs L), .s y L.length (strs L)] = some (B true) := by
  refine EE_plain T_eqStringS (by decide) (Nat.le_of_ble_eq_true rfl) (by simp only [closedL, closed, strs_closed, Bool.and_self]) ?_
  rw [show opt 26 = [] from rfl]
  simp only [bodyOf, Tryd.f26, SA]
  have hee : (((L.length : Int) = (L.length : Int)) = True) := eq_self _
  simp only [hee, RR, IA, PA, RA0, RA1, RA2, RA3, RA4, RA5, RA6, RA7, RA8, RA9, RA10, Nat.reduceAdd, Nat.reduceMul, Nat.reduceEqDiff, Nat.reduceLeDiff, Nat.reduceLT, Int.reduceToNat, Int.reduceLT, Int.reduceLE, Int.reduceEq, Int.reduceNeg, Int.reduceAdd, Int.reduceSub, Int.reduceMul, reduceIte]
  generalize hq : roundsE _ _ _ = q
  obtain ⟨e', nx', rfl⟩ := eqStringS_loop x y L hL L 0 MX _ _ _ q rfl (lt_MX (by omega)) hq rfl rfl rfl
  simp only [RR, IA, PA, RA0, RA1, RA2, RA3, RA4, RA5, RA6, RA7, RA8, RA9, RA10, Nat.reduceAdd, Nat.reduceMul, Nat.reduceEqDiff, Nat.reduceLeDiff, Nat.reduceLT, Int.reduceToNat, Int.reduceLT, Int.reduceLE, Int.reduceEq, Int.reduceNeg, Int.reduceAdd, Int.reduceSub, Int.reduceMul, reduceIte]
end
end Go.Proofs.YtkmnidbodlmaaaaDoor.Ev

/-
The engine, part 35: rows that are lent whole.
-/
namespace Go.Proofs.YtkmnidbodlmaaaaDoor.Ev
section
set_option linter.unusedVariables false
set_option linter.unusedSimpArgs false
open Go Go.RowKit
set_option linter.unusedVariables false
set_option linter.unusedSimpArgs false
section
variable {I : Tab} {C : Sem1} {pf : FuncId → Nat} {m : Nat} {e : Nat → AV} {σ : Sto} {key : Nat}
theorem evM_row {fn : Func} {c : Code} {n E sz : Nat} {cs xs : List AV} (hN : xs.length + 1 ≤ fn.ntmps) (hx : xs.all goes = true) :
    evM I C pf m fn c (lentR n E sz cs :: xs) = (evC I C pf m c ⟨fun t => (.w 0 0 n :: xs).getD t (.v undef), upd (fun _ => none) 0 (some (.row E sz n cs)), 1⟩).bind (outK I fn.results.toList (.w 0 0 n :: xs)) := by
  unfold evM
  simp only [lentR, ni, inits, inits_goes hx, Int.toNat_natCast]
  rw [if_pos ⟨by simpa using hN, by simp⟩]
  congr 1
  funext ⟨x, s⟩
  cases x <;> rfl
theorem packO_row {n E sz : Nat} {cs xs : List AV} (hσ : σ 0 = some (.row E sz n cs)) (hc : closedL cs = true) (hx : xs.all goes = true) : deepC (packO σ) (.w 0 0 n :: xs) = some (lentR n E sz cs :: xs, [0]) := by
  simp only [deepC, packO, pack1, hσ, deepL_closed 8 hc, Option.map_some, Option.bind_some, if_true, packOL_goes hx, List.append_nil]
theorem out_row_one {rs : List ResultVar} {xs : List AV} {s : St} {x : AV} {n E sz : Nat} {cs : List AV} (h1 : evRes I s rs = some [x]) (h2 : goes x = true) (hσ : s.σ 0 = some (.row E sz n cs)) (hc : closedL cs = true) (hx : xs.all goes = true) :
    outK I rs (.w 0 0 n :: xs) (.ret, s) = some (.t [x, .t (lentR n E sz cs :: xs)]) := by
  have h3 : giveL s.σ [x] = some ([x], [], []) := giveL_closed (by simp only [closedL, goes_closed h2, Bool.and_self])
  simp only [outK, h1, Option.bind_some, h3, packO_row hσ hc hx]
  rw [if_pos ⟨by simp, by simp⟩]
  cases x
  case t => simp [goes] at h2
  all_goals rfl
/-- A call that is lent a row. -/
theorem call_row_v {f : FuncId} {id n E sz : Nat} {cs cs' xs : List AV} {x : Value} (hp : pf f = 2) (hσ : σ id = some (.row E sz n cs)) (hc : closedL cs = true) (hx : xs.all goes = true) (hr : C f (lentR n E sz cs :: xs) = some (.t [.v x, .t (lentR n E sz cs' :: xs)])) :
    callOp C pf σ key f (.w id 0 n :: xs) = some (.v x, upd σ id (some (.row E sz n cs'))) := by
  rw [call2_eq hp]
  have h1 : needs σ (.w id 0 n :: xs) = [] := by
    simp only [needs, need, hσ, deepL_closed 8 hc, needs_goes hx, List.append_nil]
  have h2 : deepC (pack1 σ) (.w id 0 n :: xs) = some (lentR n E sz cs :: xs, [id]) := by
    simp only [deepC, pack1, hσ, deepL_closed 8 hc, Option.map_some, Option.bind_some, if_true, packL_goes hx, List.append_nil]
  rw [h1]
  simp only [frz0, h2, Option.bind_some, lend1]
  rw [if_pos (by simp), hr]
  have h3 : upd (killL σ [id]) id (some (.row E sz n cs')) = upd σ id (some (.row E sz n cs')) := by
    funext i
    unfold upd killL
    by_cases e : i = id <;> simp [e]
  simp only [Option.bind_some, lend2, h1, frz0, back, lentR, h3, back_goes hx]
  rw [if_pos (by simp [room])]
  rfl
/-- A call that is given two rows and gives a plain value. -/
theorem call0_ww {f : FuncId} {i j n k E sz E' sz' : Nat} {cs ds ys : List AV} {r : Value} (hi : σ i = some (.row E sz n cs)) (hj : σ j = some (.row E' sz' k ds)) (hp : pf f = 0) (hl : cs.length = n * sz) (hl' : ds.length = k * sz') (hc : closedL cs = true) (hd : closedL ds = true) (hy : closedL ys = true) (hr : C f (.s false n cs :: .s false k ds :: ys) = some (.v r)) :
    callOp C pf σ key f (.w i 0 n :: .w j 0 k :: ys) = some (.v r, σ) := by
  unfold callOp
  rw [if_neg (by omega), if_neg (by omega)]
  have h1 : deep σ 8 (.w i 0 n) = some (.s false n cs, [i]) := by
    rw [deep_w 7 hi (by omega) hc, List.drop_zero, List.take_of_length_le (by omega)]
  have h1' : deep σ 8 (.w j 0 k) = some (.s false k ds, [j]) := by
    rw [deep_w 7 hj (by omega) hd, List.drop_zero, List.take_of_length_le (by omega)]
  have h2 : deepC (deep σ 8) (.w i 0 n :: .w j 0 k :: ys) = some (.s false n cs :: .s false k ds :: ys, [i] ++ [j]) := by
    simp only [deepC, h1, h1', Option.bind_some, deepL_closed 8 hy, Option.map_some, List.append_nil]
  rw [h2]
  simp only [Option.bind_some, hr, flat, flat1, or_true, if_true]
  rfl
end
theorem EE_lendR {f : FuncId} {fn : Func} {n E sz : Nat} {cs xs : List AV} {r : AV} (hT : TT f = some (fn, bodyOf fn)) (hp : pf f = 2) (hN : xs.length + 1 ≤ fn.ntmps) (hx : xs.all goes = true)
    (h : (evC II EE (withOpt (opt f) pf) MX (strip (bodyOf fn)) ⟨fun t => (.w 0 0 n :: xs).getD t (.v undef), upd (fun _ => none) 0 (some (.row E sz n cs)), 1⟩).bind (outK II fn.results.toList (.w 0 0 n :: xs)) = some r) : EE f (lentR n E sz cs :: xs) = some r :=
  EE_lent hT hp (by rw [evM_row hN hx, ← evC_strip]; exact h)
/-- Marks from k on. -/
def markL : Int → Nat → List Int
  | _, 0 => []
  | k, n + 1 => k :: markL (k + 1) n
theorem markL_len : ∀ (n : Nat) (k : Int), (markL k n).length = n
  | 0, k => rfl
  | n + 1, k => by simp [markL, markL_len n]
theorem markL_snoc : ∀ (n : Nat) (k : Int), markL k (n + 1) = markL k n ++ [k + n]
  | 0, k => by simp [markL]
  | n + 1, k => by
    rw [markL, markL_snoc n (k + 1)]
    simp only [markL, List.cons_append]
    congr 3
    omega
theorem markL_drop : ∀ (i n : Nat) (k : Int), i < n → (markL k n).drop i = (k + i) :: (markL k n).drop (i + 1)
  | 0, n + 1, k, h => by simp [markL]
  | i + 1, n + 1, k, h => by
    simp only [markL, List.drop_succ_cons]
    rw [markL_drop i n (k + 1) (by omega)]
    congr 1
    omega
end
end Go.Proofs.YtkmnidbodlmaaaaDoor.Ev

/-
Laws: marks in a slice of numbers.
-/
namespace Go.Proofs.YtkmnidbodlmaaaaDoor.Ev
section
set_option linter.unusedVariables false
set_option linter.unusedSimpArgs false
open Go Go.RowKit
set_option linter.unusedVariables false
set_option linter.unusedSimpArgs false
theorem T_markIntS : TT 20 = some (Tryd.f20, bodyOf Tryd.f20) := by kernel_rfl
theorem markIntS_loop (L : List Int) (hL : L.length < 1000000000) : ∀ (d i n : Nat) (e : Nat → AV) (σ : Sto) (nx : Nat) (q : Option (Ex × St)),
    i + d = L.length → d < n → roundsE (evC II EE (withOpt [] pf) MX (bodyL Tryd.f20 0)) n ⟨e, σ, nx⟩ = q → e 0 = .w 0 0 L.length → e 1 = N (1 + i) → e 5 = N i → 0 < nx →
    σ 0 = some (.row 3 1 L.length (ints (markL 1 i ++ L.drop i))) →
    ∃ e' σ' nx', q = some (.exit 0, ⟨e', σ', nx'⟩) ∧ e' 1 = N (1 + L.length) ∧ σ' 0 = some (.row 3 1 L.length (ints (markL 1 L.length))) := by
  intro d
  induction d with
  | zero =>
    intro i n e σ nx q hd hn hq h0 h1 h5 hnx hσ
    obtain ⟨k, rfl⟩ : ∃ k, n = k + 1 := ⟨n - 1, by omega⟩
    rw [rounds_rd] at hq
    have hc : ¬ ((i : Int) < (L.length : Int)) := by omega
    simp only [bodyL, bodyOf, Tryd.f20, SA, loops, List.nil_append, List.append_nil, List.cons_append, List.getD_cons_zero, List.getD_cons_succ] at hq
    simp only [h0, h1, h5, hc, IA, PA, RA0, RA1, RA2, RA3, RA4, RA5, RA6, RA7, RA8, RA9, RA10, Nat.reduceAdd, Nat.reduceMul, Nat.reduceEqDiff, Nat.reduceLeDiff, Nat.reduceLT, Int.reduceToNat, Int.reduceLT, Int.reduceLE, Int.reduceEq, Int.reduceNeg, Int.reduceAdd, Int.reduceSub, Int.reduceMul, reduceIte] at hq
    have hi : i = L.length := by omega
    refine ⟨_, _, _, hq.symm, ?_, ?_⟩
    · rw [← hi]; exact h1
    · rw [hσ, hi, List.drop_length, List.append_nil]
  | succ d ih =>
    intro i n e σ nx q hd hn hq h0 h1 h5 hnx hσ
    obtain ⟨k, rfl⟩ : ∃ k, n = k + 1 := ⟨n - 1, by omega⟩
    rw [rounds_rd] at hq
    have hc : ((i : Int) < (L.length : Int)) := by omega
    have hz : (0 : Int) ≤ (i : Int) := by omega
    have hw : IntKind.i64.wrap ((i : Int) + 1) = ((i + 1 : Nat) : Int) := by rw [wrap64 (by omega) (by omega)]; rfl
    have hw1 : IntKind.i64.wrap (1 + (i : Int) + 1) = 1 + ((i + 1 : Nat) : Int) := by rw [wrap64 (by omega) (by omega)]; omega
    obtain ⟨z, r, hdr⟩ : ∃ z r, L.drop i = z :: r := by
      cases h : L.drop i with
      | nil => have := congrArg List.length h; simp at this; omega
      | cons z r => exact ⟨z, r, rfl⟩
    have hdr' : L.drop (i + 1) = r := by
      have : (L.drop i).drop 1 = r := by rw [hdr]; rfl
      simpa [List.drop_drop] using this
    have hset : setRange (ints (markL 1 i ++ L.drop i)) i [N (1 + i)] = some (ints (markL 1 (i + 1) ++ L.drop (i + 1))) := by
      rw [hdr, hdr', markL_snoc, ← ints_append, ints_cons, set_at (by rw [ints_len, markL_len])]
      simp [ints]
    simp only [bodyL, bodyOf, Tryd.f20, SA, loops, List.nil_append, List.append_nil, List.cons_append, List.getD_cons_zero, List.getD_cons_succ] at hq
    rw [setRange_eq] at hset
    have hln : (ints (markL 1 i ++ L.drop i)).length = L.length := by rw [ints_len, List.length_append, markL_len, List.length_drop]; omega
    simp only [h0, h1, h5, hc, hz, hw, hw1, hσ, Int.toNat_natCast, Nat.mul_one, Nat.zero_add, RR, IA, PA, RA0, RA1, RA2, RA3, RA4, RA5, RA6, RA7, RA8, RA9, RA10, Nat.reduceAdd, Nat.reduceMul, Nat.reduceEqDiff, Nat.reduceLeDiff, Nat.reduceLT, Int.reduceToNat, Int.reduceLT, Int.reduceLE, Int.reduceEq, Int.reduceNeg, Int.reduceAdd, Int.reduceSub, Int.reduceMul, reduceIte] at hq
    rw [if_pos (by rw [List.length_append, markL_len, List.length_drop]; omega)] at hq
    rw [List.length_cons, List.length_nil, if_pos (by omega)] at hset
    have hset2 := Option.some.inj hset
    exact ih (i + 1) k _ _ _ q (by omega) (by omega) hq h0 rfl rfl (by omega) (by simp only [upd, if_true]; exact congrArg (fun z => some (Slot.row 3 1 L.length z)) hset2)
theorem markIntS_ev (L : List Int) (hL : L.length < 1000000000) : EE 20 [lentR L.length 3 1 (ints L), N 1] = some (.t [N (1 + L.length), .t [lentR L.length 3 1 (ints (markL 1 L.length)), N 1]]) := by
  refine EE_lendR T_markIntS rfl (Nat.le_of_ble_eq_true rfl) rfl ?_
  rw [show opt 20 = [] from rfl]
  simp only [bodyOf, Tryd.f20, SA]
  simp only [RR, IA, PA, RA0, RA1, RA2, RA3, RA4, RA5, RA6, RA7, RA8, RA9, RA10, Nat.reduceAdd, Nat.reduceMul, Nat.reduceEqDiff, Nat.reduceLeDiff, Nat.reduceLT, Int.reduceToNat, Int.reduceLT, Int.reduceLE, Int.reduceEq, Int.reduceNeg, Int.reduceAdd, Int.reduceSub, Int.reduceMul, reduceIte]
  generalize hq : roundsE _ _ _ = q
  obtain ⟨e', σ', nx', rfl, h1, hσ⟩ := markIntS_loop L hL L.length 0 MX _ _ _ q (by omega) (lt_MX (by omega)) hq rfl rfl rfl (by omega) (by simp only [upd, if_true]; rfl)
  simp only [h1, RR, IA, PA, RA0, RA1, RA2, RA3, RA4, RA5, RA6, RA7, RA8, RA9, RA10, Nat.reduceAdd, Nat.reduceMul, Nat.reduceEqDiff, Nat.reduceLeDiff, Nat.reduceLT, Int.reduceToNat, Int.reduceLT, Int.reduceLE, Int.reduceEq, Int.reduceNeg, Int.reduceAdd, Int.reduceSub, Int.reduceMul, reduceIte]
  exact out_row_one (x := N (1 + L.length)) (by simp only [IA, PA, RA0, RA1, RA2, RA3, RA4, RA5, RA6, RA7, RA8, RA9, RA10, Nat.reduceAdd, Nat.reduceMul, Nat.reduceEqDiff, Nat.reduceLeDiff, Nat.reduceLT, Int.reduceToNat, Int.reduceLT, Int.reduceLE, Int.reduceEq, Int.reduceNeg, Int.reduceAdd, Int.reduceSub, Int.reduceMul, reduceIte]) rfl hσ (ints_closed _) rfl
theorem T_heldIntS : TT 21 = some (Tryd.f21, bodyOf Tryd.f21) := by kernel_rfl
theorem heldIntS_loop (x : Bool) (n0 : Nat) (hL : n0 < 1000000000) : ∀ (d i n : Nat) (e : Nat → AV) (σ : Sto) (nx : Nat) (q : Option (Ex × St)),
    i + d = n0 → d < n → roundsE (evC II EE (withOpt [] pf) MX (bodyL Tryd.f21 0)) n ⟨e, σ, nx⟩ = q → e 0 = .s x n0 (ints (markL 1 n0)) → e 1 = N (1 + i) → e 5 = N i →
    ∃ e' nx', q = some (.exit 0, ⟨e', σ, nx'⟩) ∧ e' 1 = N (1 + n0) := by
  intro d
  induction d with
  | zero =>
    intro i n e σ nx q hd hn hq h0 h1 h5
    obtain ⟨k, rfl⟩ : ∃ k, n = k + 1 := ⟨n - 1, by omega⟩
    rw [rounds_rd] at hq
    have hc : ¬ ((i : Int) < (n0 : Int)) := by omega
    simp only [bodyL, bodyOf, Tryd.f21, SA, loops, List.nil_append, List.append_nil, List.cons_append, List.getD_cons_zero, List.getD_cons_succ] at hq
    simp only [h0, h1, h5, hc, IA, PA, RA0, RA1, RA2, RA3, RA4, RA5, RA6, RA7, RA8, RA9, RA10, Nat.reduceAdd, Nat.reduceMul, Nat.reduceEqDiff, Nat.reduceLeDiff, Nat.reduceLT, Int.reduceToNat, Int.reduceLT, Int.reduceLE, Int.reduceEq, Int.reduceNeg, Int.reduceAdd, Int.reduceSub, Int.reduceMul, reduceIte] at hq
    have hi : i = n0 := by omega
    exact ⟨_, _, hq.symm, by rw [← hi]; exact h1⟩
  | succ d ih =>
    intro i n e σ nx q hd hn hq h0 h1 h5
    obtain ⟨k, rfl⟩ : ∃ k, n = k + 1 := ⟨n - 1, by omega⟩
    rw [rounds_rd] at hq
    have hc : ((i : Int) < (n0 : Int)) := by omega
    have hz : (0 : Int) ≤ (i : Int) := by omega
    have hw : IntKind.i64.wrap ((i : Int) + 1) = ((i + 1 : Nat) : Int) := by rw [wrap64 (by omega) (by omega)]; rfl
    have hw1 : IntKind.i64.wrap (1 + (i : Int) + 1) = 1 + ((i + 1 : Nat) : Int) := by rw [wrap64 (by omega) (by omega)]; omega
    have hhd : ((ints (markL 1 n0)).drop i).head? = some (N (1 + i)) := by rw [ints_drop, markL_drop i n0 1 (by omega)]; rfl
    have hee : decide ((1 + (i : Int)) = 1 + (i : Int)) = true := by simp
    simp only [bodyL, bodyOf, Tryd.f21, SA, loops, List.nil_append, List.append_nil, List.cons_append, List.getD_cons_zero, List.getD_cons_succ] at hq
    simp only [h0, h1, h5, hc, hz, hw, hw1, hhd, hee, markL_len, Int.toNat_natCast, Nat.mul_one, Nat.zero_add, RR, IA, PA, RA0, RA1, RA2, RA3, RA4, RA5, RA6, RA7, RA8, RA9, RA10, Nat.reduceAdd, Nat.reduceMul, Nat.reduceEqDiff, Nat.reduceLeDiff, Nat.reduceLT, Int.reduceToNat, Int.reduceLT, Int.reduceLE, Int.reduceEq, Int.reduceNeg, Int.reduceAdd, Int.reduceSub, Int.reduceMul, reduceIte] at hq
    exact ih (i + 1) k _ σ _ q (by omega) (by omega) hq h0 rfl rfl
theorem heldIntS_ev (x : Bool) (n0 : Nat) (hL : n0 < 1000000000) : EE 21 [.s x n0 (ints (markL 1 n0)), N 1] = some (N (1 + n0)) := by
  refine EE_plain T_heldIntS (by decide) (Nat.le_of_ble_eq_true rfl) (by simp only [closedL, closed, ints_closed, Bool.and_self]) ?_
  rw [show opt 21 = [] from rfl]
  simp only [bodyOf, Tryd.f21, SA]
  simp only [RR, IA, PA, RA0, RA1, RA2, RA3, RA4, RA5, RA6, RA7, RA8, RA9, RA10, Nat.reduceAdd, Nat.reduceMul, Nat.reduceEqDiff, Nat.reduceLeDiff, Nat.reduceLT, Int.reduceToNat, Int.reduceLT, Int.reduceLE, Int.reduceEq, Int.reduceNeg, Int.reduceAdd, Int.reduceSub, Int.reduceMul, reduceIte]
  generalize hq : roundsE _ _ _ = q
  obtain ⟨e', nx', rfl, h1⟩ := heldIntS_loop x n0 hL n0 0 MX _ _ _ q (by omega) (lt_MX (by omega)) hq rfl rfl rfl
  simp only [h1, RR, IA, PA, RA0, RA1, RA2, RA3, RA4, RA5, RA6, RA7, RA8, RA9, RA10, Nat.reduceAdd, Nat.reduceMul, Nat.reduceEqDiff, Nat.reduceLeDiff, Nat.reduceLT, Int.reduceToNat, Int.reduceLT, Int.reduceLE, Int.reduceEq, Int.reduceNeg, Int.reduceAdd, Int.reduceSub, Int.reduceMul, reduceIte]
end
end Go.Proofs.YtkmnidbodlmaaaaDoor.Ev
