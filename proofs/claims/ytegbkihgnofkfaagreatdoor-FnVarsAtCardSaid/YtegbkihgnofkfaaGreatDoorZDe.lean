/-
Texts De to Dg of the work.
-/
import Derived.Test.YtegbkihgnofkfaaGreatDoorZDa
/-
Draws: fuel, depth 0 (written by wip/tools/gen_de.py).
-/
namespace Go.Proofs.YtegbkihgnofkfaaGreatDoor.Ev
section
set_option linter.unusedVariables false
set_option linter.unusedSimpArgs false
open Go Go.RowKit
set_option linter.unusedVariables false
set_option linter.unusedSimpArgs false
theorem bD_le : ∀ k, k ≤ 6 → bD k ≤ 1000 := by decide
set_option maxHeartbeats 16000000 in
theorem draw_s00 (l : List UInt8) (hl : l.length ≤ 2000) (k : Nat) (hk : k < 6) (ih : DrawOk l k) (fuel : Int) (z o : List UInt8) (p : Nat) (hf : fuel ≤ ((k + 1 : Nat) : Int)) (h0 : 0 < fuel) (hz : z.length + (k + 1) ≤ 100) (ho : o.length + (k + 1) ≤ 100) (hp : p + cD (k + 1) ≤ 1000000) (v : Int) (hv : EE 13 [srcL l p, N 7] = some (.t [N v, .t [srcL l (p + 1), N 7]])) (e : v = 0) : DrawR l (k + 1) 0 fuel z o p := by
  have hcc : cD (k + 1) = 2 * cD k + 2 := rfl
  have hbb : bD (k + 1) = 2 * bD k + 5 := rfl
  have hbk : bD k ≤ 1000 := bD_le k (by omega)
  obtain ⟨f, rfl⟩ : ∃ f : Nat, fuel = (f : Int) := ⟨fuel.toNat, by omega⟩
  have nf : ¬ ((f : Int) ≤ 0) := by omega
  have wa : IntKind.i64.wrap ((f : Int) + (z.length : Int)) = ((f + z.length : Nat) : Int) := by rw [wrap64 (by omega) (by omega)]; omega
  have wb : IntKind.i64.wrap (2 * (o.length : Int)) = ((2 * o.length : Nat) : Int) := by rw [wrap64 (by omega) (by omega)]; omega
  have wc : IntKind.i64.wrap (((f + z.length : Nat) : Int) + ((2 * o.length : Nat) : Int)) = ((f + z.length + 2 * o.length : Nat) : Int) := by rw [wrap64 (by omega) (by omega)]; omega
  have m5 : (((f + z.length + 2 * o.length : Nat) : Int)).tmod 5 = (((f + z.length + 2 * o.length) % 5 : Nat) : Int) := (Int.ofNat_tmod _ 5).symm
  have hX : (f + z.length + 2 * o.length) % 5 < 5 := Nat.mod_lt _ (by decide)
  obtain ⟨c, hname⟩ := take_one_at [118, 119, 120, 121, 122] _ hX
  simp only [List.take_succ_cons] at hname
  have wd : IntKind.i64.wrap ((((f + z.length + 2 * o.length) % 5 : Nat) : Int) + 1) = (((f + z.length + 2 * o.length) % 5 + 1 : Nat) : Int) := by rw [wrap64 (by omega) (by omega)]; omega
  have z5 : (0 : Int) ≤ (((f + z.length + 2 * o.length) % 5 : Nat) : Int) := by omega
  have le5 : (((f + z.length + 2 * o.length) % 5 : Nat) : Int) ≤ (((f + z.length + 2 * o.length) % 5 + 1 : Nat) : Int) := by omega
  have lt5 : (((f + z.length + 2 * o.length) % 5 + 1 : Nat) : Int) ≤ ((5 : Nat) : Int) := by omega
  have w1 : IntKind.i64.wrap ((f : Int) - 1) = (f : Int) - 1 := wrap64 (by omega) (by omega)
  have w2 : IntKind.i64.wrap ((f : Int) - 2) = (f : Int) - 2 := wrap64 (by omega) (by omega)
  have hrun : ∀ y, ((evC II EE (withOpt (opt 43) pf) MX (strip (bodyOf Tryz.f43)) (st0 l p 0 (f : Int) z o)).bind (outK II Tryz.f43.results.toList (.r 0 0 :: [N 0, N (f : Int), S z, S o]))) = some y → EE 43 [srcL l p, N 0, N (f : Int), S z, S o] = some y := fun y h => EE_lend T_draw (by decide) (Nat.le_of_ble_eq_true rfl) (src_cl l p) rfl h
  rw [show opt 43 = [] from rfl] at hrun
  simp only [st0, bodyOf, Tryz.f43, SA] at hrun
  simp only [nf, wa, wb, wc, m5, wd, z5, le5, lt5, hname, w1, w2, TMA, Int.toNat_natCast, Nat.mul_one, RR, IA, PA, RA0, RA1, RA2, RA3, RA4, RA5, RA6, RA7, RA8, RA9, RA10, Nat.reduceAdd, Nat.reduceMul, Nat.reduceEqDiff, Nat.reduceLeDiff, Nat.reduceLT, Int.reduceToNat, Int.reduceLT, Int.reduceLE, Int.reduceEq, Int.reduceNeg, Int.reduceAdd, Int.reduceSub, Int.reduceMul, reduceIte] at hrun
  rw [pick_call (withOpt_nil_lo (by decide)) (by rfl) hv] at hrun
  subst e
  obtain ⟨s1, p1, hs1, sp1, sl1, pl1⟩ := ih 1 ((f : Int) - 1) z o (p + 1) (by omega) (by omega) (by omega) (by omega) (by omega)
  simp only [nf, wa, wb, wc, m5, wd, z5, le5, lt5, hname, w1, w2, TMA, Int.toNat_natCast, Nat.mul_one, RR, IA, PA, RA0, RA1, RA2, RA3, RA4, RA5, RA6, RA7, RA8, RA9, RA10, Nat.reduceAdd, Nat.reduceMul, Nat.reduceEqDiff, Nat.reduceLeDiff, Nat.reduceLT, Int.reduceToNat, Int.reduceLT, Int.reduceLE, Int.reduceEq, Int.reduceNeg, Int.reduceAdd, Int.reduceSub, Int.reduceMul, reduceIte] at hrun
  rw [draw_call (by rfl) hs1] at hrun
  have k1 := cat ([83]) (s1) (by (try simp only [List.length_append, List.length_cons, List.length_nil]); omega)
  try simp only [List.cons_append, List.nil_append] at k1
  simp only [nf, wa, wb, wc, m5, wd, z5, le5, lt5, hname, w1, w2, k1, TMA, Int.toNat_natCast, Nat.mul_one, RR, IA, PA, RA0, RA1, RA2, RA3, RA4, RA5, RA6, RA7, RA8, RA9, RA10, Nat.reduceAdd, Nat.reduceMul, Nat.reduceEqDiff, Nat.reduceLeDiff, Nat.reduceLT, Int.reduceToNat, Int.reduceLT, Int.reduceLE, Int.reduceEq, Int.reduceNeg, Int.reduceAdd, Int.reduceSub, Int.reduceMul, reduceIte] at hrun
  exact ⟨[83] ++ s1, p1, hrun _ (out_one rfl rfl rfl (src_cl l p1) rfl), by (try simp only [List.length_append, List.length_cons, List.length_nil]); omega, by (try simp only [List.length_append, List.length_cons, List.length_nil]); omega, by omega⟩
set_option maxHeartbeats 16000000 in
theorem draw_s01 (l : List UInt8) (hl : l.length ≤ 2000) (k : Nat) (hk : k < 6) (ih : DrawOk l k) (fuel : Int) (z o : List UInt8) (p : Nat) (hf : fuel ≤ ((k + 1 : Nat) : Int)) (h0 : 0 < fuel) (hz : z.length + (k + 1) ≤ 100) (ho : o.length + (k + 1) ≤ 100) (hp : p + cD (k + 1) ≤ 1000000) (v : Int) (hv : EE 13 [srcL l p, N 7] = some (.t [N v, .t [srcL l (p + 1), N 7]])) (e : v = 1) : DrawR l (k + 1) 0 fuel z o p := by
  have hcc : cD (k + 1) = 2 * cD k + 2 := rfl
  have hbb : bD (k + 1) = 2 * bD k + 5 := rfl
  have hbk : bD k ≤ 1000 := bD_le k (by omega)
  obtain ⟨f, rfl⟩ : ∃ f : Nat, fuel = (f : Int) := ⟨fuel.toNat, by omega⟩
  have nf : ¬ ((f : Int) ≤ 0) := by omega
  have wa : IntKind.i64.wrap ((f : Int) + (z.length : Int)) = ((f + z.length : Nat) : Int) := by rw [wrap64 (by omega) (by omega)]; omega
  have wb : IntKind.i64.wrap (2 * (o.length : Int)) = ((2 * o.length : Nat) : Int) := by rw [wrap64 (by omega) (by omega)]; omega
  have wc : IntKind.i64.wrap (((f + z.length : Nat) : Int) + ((2 * o.length : Nat) : Int)) = ((f + z.length + 2 * o.length : Nat) : Int) := by rw [wrap64 (by omega) (by omega)]; omega
  have m5 : (((f + z.length + 2 * o.length : Nat) : Int)).tmod 5 = (((f + z.length + 2 * o.length) % 5 : Nat) : Int) := (Int.ofNat_tmod _ 5).symm
  have hX : (f + z.length + 2 * o.length) % 5 < 5 := Nat.mod_lt _ (by decide)
  obtain ⟨c, hname⟩ := take_one_at [118, 119, 120, 121, 122] _ hX
  simp only [List.take_succ_cons] at hname
  have wd : IntKind.i64.wrap ((((f + z.length + 2 * o.length) % 5 : Nat) : Int) + 1) = (((f + z.length + 2 * o.length) % 5 + 1 : Nat) : Int) := by rw [wrap64 (by omega) (by omega)]; omega
  have z5 : (0 : Int) ≤ (((f + z.length + 2 * o.length) % 5 : Nat) : Int) := by omega
  have le5 : (((f + z.length + 2 * o.length) % 5 : Nat) : Int) ≤ (((f + z.length + 2 * o.length) % 5 + 1 : Nat) : Int) := by omega
  have lt5 : (((f + z.length + 2 * o.length) % 5 + 1 : Nat) : Int) ≤ ((5 : Nat) : Int) := by omega
  have w1 : IntKind.i64.wrap ((f : Int) - 1) = (f : Int) - 1 := wrap64 (by omega) (by omega)
  have w2 : IntKind.i64.wrap ((f : Int) - 2) = (f : Int) - 2 := wrap64 (by omega) (by omega)
  have hrun : ∀ y, ((evC II EE (withOpt (opt 43) pf) MX (strip (bodyOf Tryz.f43)) (st0 l p 0 (f : Int) z o)).bind (outK II Tryz.f43.results.toList (.r 0 0 :: [N 0, N (f : Int), S z, S o]))) = some y → EE 43 [srcL l p, N 0, N (f : Int), S z, S o] = some y := fun y h => EE_lend T_draw (by decide) (Nat.le_of_ble_eq_true rfl) (src_cl l p) rfl h
  rw [show opt 43 = [] from rfl] at hrun
  simp only [st0, bodyOf, Tryz.f43, SA] at hrun
  simp only [nf, wa, wb, wc, m5, wd, z5, le5, lt5, hname, w1, w2, TMA, Int.toNat_natCast, Nat.mul_one, RR, IA, PA, RA0, RA1, RA2, RA3, RA4, RA5, RA6, RA7, RA8, RA9, RA10, Nat.reduceAdd, Nat.reduceMul, Nat.reduceEqDiff, Nat.reduceLeDiff, Nat.reduceLT, Int.reduceToNat, Int.reduceLT, Int.reduceLE, Int.reduceEq, Int.reduceNeg, Int.reduceAdd, Int.reduceSub, Int.reduceMul, reduceIte] at hrun
  rw [pick_call (withOpt_nil_lo (by decide)) (by rfl) hv] at hrun
  subst e
  obtain ⟨x1, hm1, hx1⟩ := of_ev l hl (p + 1) (by omega) true [[77], [78]] (by decide) (by decide)
  have xl1 : x1.length = 1 := (show ∀ s ∈ ([[77], [78]] : List (List UInt8)), s.length = 1 by decide) _ hm1
  simp only [nf, wa, wb, wc, m5, wd, z5, le5, lt5, hname, w1, w2, TMA, Int.toNat_natCast, Nat.mul_one, RR, IA, PA, RA0, RA1, RA2, RA3, RA4, RA5, RA6, RA7, RA8, RA9, RA10, Nat.reduceAdd, Nat.reduceMul, Nat.reduceEqDiff, Nat.reduceLeDiff, Nat.reduceLT, Int.reduceToNat, Int.reduceLT, Int.reduceLE, Int.reduceEq, Int.reduceNeg, Int.reduceAdd, Int.reduceSub, Int.reduceMul, reduceIte] at hrun
  rw [of_call2 (by rfl) hx1] at hrun
  obtain ⟨s2, p2, hs2, sp2, sl2, pl2⟩ := ih 1 ((f : Int) - 1) z o ((p + 1) + 1) (by omega) (by omega) (by omega) (by omega) (by omega)
  simp only [nf, wa, wb, wc, m5, wd, z5, le5, lt5, hname, w1, w2, TMA, Int.toNat_natCast, Nat.mul_one, RR, IA, PA, RA0, RA1, RA2, RA3, RA4, RA5, RA6, RA7, RA8, RA9, RA10, Nat.reduceAdd, Nat.reduceMul, Nat.reduceEqDiff, Nat.reduceLeDiff, Nat.reduceLT, Int.reduceToNat, Int.reduceLT, Int.reduceLE, Int.reduceEq, Int.reduceNeg, Int.reduceAdd, Int.reduceSub, Int.reduceMul, reduceIte] at hrun
  rw [draw_call (by rfl) hs2] at hrun
  have k1 := cat (x1) (s2) (by (try simp only [List.length_append, List.length_cons, List.length_nil]); omega)
  try simp only [List.cons_append, List.nil_append] at k1
  simp only [nf, wa, wb, wc, m5, wd, z5, le5, lt5, hname, w1, w2, k1, TMA, Int.toNat_natCast, Nat.mul_one, RR, IA, PA, RA0, RA1, RA2, RA3, RA4, RA5, RA6, RA7, RA8, RA9, RA10, Nat.reduceAdd, Nat.reduceMul, Nat.reduceEqDiff, Nat.reduceLeDiff, Nat.reduceLT, Int.reduceToNat, Int.reduceLT, Int.reduceLE, Int.reduceEq, Int.reduceNeg, Int.reduceAdd, Int.reduceSub, Int.reduceMul, reduceIte] at hrun
  exact ⟨x1 ++ s2, p2, hrun _ (out_one rfl rfl rfl (src_cl l p2) rfl), by (try simp only [List.length_append, List.length_cons, List.length_nil]); omega, by (try simp only [List.length_append, List.length_cons, List.length_nil]); omega, by omega⟩
set_option maxHeartbeats 16000000 in
theorem draw_s02 (l : List UInt8) (hl : l.length ≤ 2000) (k : Nat) (hk : k < 6) (ih : DrawOk l k) (fuel : Int) (z o : List UInt8) (p : Nat) (hf : fuel ≤ ((k + 1 : Nat) : Int)) (h0 : 0 < fuel) (hz : z.length + (k + 1) ≤ 100) (ho : o.length + (k + 1) ≤ 100) (hp : p + cD (k + 1) ≤ 1000000) (v : Int) (hv : EE 13 [srcL l p, N 7] = some (.t [N v, .t [srcL l (p + 1), N 7]])) (e : v = 2) : DrawR l (k + 1) 0 fuel z o p := by
  have hcc : cD (k + 1) = 2 * cD k + 2 := rfl
  have hbb : bD (k + 1) = 2 * bD k + 5 := rfl
  have hbk : bD k ≤ 1000 := bD_le k (by omega)
  obtain ⟨f, rfl⟩ : ∃ f : Nat, fuel = (f : Int) := ⟨fuel.toNat, by omega⟩
  have nf : ¬ ((f : Int) ≤ 0) := by omega
  have wa : IntKind.i64.wrap ((f : Int) + (z.length : Int)) = ((f + z.length : Nat) : Int) := by rw [wrap64 (by omega) (by omega)]; omega
  have wb : IntKind.i64.wrap (2 * (o.length : Int)) = ((2 * o.length : Nat) : Int) := by rw [wrap64 (by omega) (by omega)]; omega
  have wc : IntKind.i64.wrap (((f + z.length : Nat) : Int) + ((2 * o.length : Nat) : Int)) = ((f + z.length + 2 * o.length : Nat) : Int) := by rw [wrap64 (by omega) (by omega)]; omega
  have m5 : (((f + z.length + 2 * o.length : Nat) : Int)).tmod 5 = (((f + z.length + 2 * o.length) % 5 : Nat) : Int) := (Int.ofNat_tmod _ 5).symm
  have hX : (f + z.length + 2 * o.length) % 5 < 5 := Nat.mod_lt _ (by decide)
  obtain ⟨c, hname⟩ := take_one_at [118, 119, 120, 121, 122] _ hX
  simp only [List.take_succ_cons] at hname
  have wd : IntKind.i64.wrap ((((f + z.length + 2 * o.length) % 5 : Nat) : Int) + 1) = (((f + z.length + 2 * o.length) % 5 + 1 : Nat) : Int) := by rw [wrap64 (by omega) (by omega)]; omega
  have z5 : (0 : Int) ≤ (((f + z.length + 2 * o.length) % 5 : Nat) : Int) := by omega
  have le5 : (((f + z.length + 2 * o.length) % 5 : Nat) : Int) ≤ (((f + z.length + 2 * o.length) % 5 + 1 : Nat) : Int) := by omega
  have lt5 : (((f + z.length + 2 * o.length) % 5 + 1 : Nat) : Int) ≤ ((5 : Nat) : Int) := by omega
  have w1 : IntKind.i64.wrap ((f : Int) - 1) = (f : Int) - 1 := wrap64 (by omega) (by omega)
  have w2 : IntKind.i64.wrap ((f : Int) - 2) = (f : Int) - 2 := wrap64 (by omega) (by omega)
  have hrun : ∀ y, ((evC II EE (withOpt (opt 43) pf) MX (strip (bodyOf Tryz.f43)) (st0 l p 0 (f : Int) z o)).bind (outK II Tryz.f43.results.toList (.r 0 0 :: [N 0, N (f : Int), S z, S o]))) = some y → EE 43 [srcL l p, N 0, N (f : Int), S z, S o] = some y := fun y h => EE_lend T_draw (by decide) (Nat.le_of_ble_eq_true rfl) (src_cl l p) rfl h
  rw [show opt 43 = [] from rfl] at hrun
  simp only [st0, bodyOf, Tryz.f43, SA] at hrun
  simp only [nf, wa, wb, wc, m5, wd, z5, le5, lt5, hname, w1, w2, TMA, Int.toNat_natCast, Nat.mul_one, RR, IA, PA, RA0, RA1, RA2, RA3, RA4, RA5, RA6, RA7, RA8, RA9, RA10, Nat.reduceAdd, Nat.reduceMul, Nat.reduceEqDiff, Nat.reduceLeDiff, Nat.reduceLT, Int.reduceToNat, Int.reduceLT, Int.reduceLE, Int.reduceEq, Int.reduceNeg, Int.reduceAdd, Int.reduceSub, Int.reduceMul, reduceIte] at hrun
  rw [pick_call (withOpt_nil_lo (by decide)) (by rfl) hv] at hrun
  subst e
  obtain ⟨s1, p1, hs1, sp1, sl1, pl1⟩ := ih 1 ((f : Int) - 2) z o (p + 1) (by omega) (by omega) (by omega) (by omega) (by omega)
  simp only [nf, wa, wb, wc, m5, wd, z5, le5, lt5, hname, w1, w2, TMA, Int.toNat_natCast, Nat.mul_one, RR, IA, PA, RA0, RA1, RA2, RA3, RA4, RA5, RA6, RA7, RA8, RA9, RA10, Nat.reduceAdd, Nat.reduceMul, Nat.reduceEqDiff, Nat.reduceLeDiff, Nat.reduceLT, Int.reduceToNat, Int.reduceLT, Int.reduceLE, Int.reduceEq, Int.reduceNeg, Int.reduceAdd, Int.reduceSub, Int.reduceMul, reduceIte] at hrun
  rw [draw_call (by rfl) hs1] at hrun
  have k1 := cat ([40]) (s1) (by (try simp only [List.length_append, List.length_cons, List.length_nil]); omega)
  try simp only [List.cons_append, List.nil_append] at k1
  have k2 := cat ([40] ++ s1) ([64]) (by (try simp only [List.length_append, List.length_cons, List.length_nil]); omega)
  try simp only [List.cons_append, List.nil_append] at k2
  obtain ⟨s2, p2, hs2, sp2, sl2, pl2⟩ := ih 0 ((f : Int) - 2) z o p1 (by omega) (by omega) (by omega) (by omega) (by omega)
  simp only [nf, wa, wb, wc, m5, wd, z5, le5, lt5, hname, w1, w2, k1, k2, TMA, Int.toNat_natCast, Nat.mul_one, RR, IA, PA, RA0, RA1, RA2, RA3, RA4, RA5, RA6, RA7, RA8, RA9, RA10, Nat.reduceAdd, Nat.reduceMul, Nat.reduceEqDiff, Nat.reduceLeDiff, Nat.reduceLT, Int.reduceToNat, Int.reduceLT, Int.reduceLE, Int.reduceEq, Int.reduceNeg, Int.reduceAdd, Int.reduceSub, Int.reduceMul, reduceIte] at hrun
  rw [draw_call (by rfl) hs2] at hrun
  have k3 := cat ([40] ++ s1 ++ [64]) (s2) (by (try simp only [List.length_append, List.length_cons, List.length_nil]); omega)
  try simp only [List.cons_append, List.nil_append] at k3
  have k4 := cat ([40] ++ s1 ++ [64] ++ s2) ([41]) (by (try simp only [List.length_append, List.length_cons, List.length_nil]); omega)
  try simp only [List.cons_append, List.nil_append] at k4
  simp only [nf, wa, wb, wc, m5, wd, z5, le5, lt5, hname, w1, w2, k1, k2, k3, k4, TMA, Int.toNat_natCast, Nat.mul_one, RR, IA, PA, RA0, RA1, RA2, RA3, RA4, RA5, RA6, RA7, RA8, RA9, RA10, Nat.reduceAdd, Nat.reduceMul, Nat.reduceEqDiff, Nat.reduceLeDiff, Nat.reduceLT, Int.reduceToNat, Int.reduceLT, Int.reduceLE, Int.reduceEq, Int.reduceNeg, Int.reduceAdd, Int.reduceSub, Int.reduceMul, reduceIte] at hrun
  exact ⟨[40] ++ s1 ++ [64] ++ s2 ++ [41], p2, hrun _ (out_one rfl rfl rfl (src_cl l p2) rfl), by (try simp only [List.length_append, List.length_cons, List.length_nil]); omega, by (try simp only [List.length_append, List.length_cons, List.length_nil]); omega, by omega⟩
set_option maxHeartbeats 16000000 in
theorem draw_s03 (l : List UInt8) (hl : l.length ≤ 2000) (k : Nat) (hk : k < 6) (ih : DrawOk l k) (fuel : Int) (z o : List UInt8) (p : Nat) (hf : fuel ≤ ((k + 1 : Nat) : Int)) (h0 : 0 < fuel) (hz : z.length + (k + 1) ≤ 100) (ho : o.length + (k + 1) ≤ 100) (hp : p + cD (k + 1) ≤ 1000000) (v : Int) (hv : EE 13 [srcL l p, N 7] = some (.t [N v, .t [srcL l (p + 1), N 7]])) (e : v = 3) : DrawR l (k + 1) 0 fuel z o p := by
  have hcc : cD (k + 1) = 2 * cD k + 2 := rfl
  have hbb : bD (k + 1) = 2 * bD k + 5 := rfl
  have hbk : bD k ≤ 1000 := bD_le k (by omega)
  obtain ⟨f, rfl⟩ : ∃ f : Nat, fuel = (f : Int) := ⟨fuel.toNat, by omega⟩
  have nf : ¬ ((f : Int) ≤ 0) := by omega
  have wa : IntKind.i64.wrap ((f : Int) + (z.length : Int)) = ((f + z.length : Nat) : Int) := by rw [wrap64 (by omega) (by omega)]; omega
  have wb : IntKind.i64.wrap (2 * (o.length : Int)) = ((2 * o.length : Nat) : Int) := by rw [wrap64 (by omega) (by omega)]; omega
  have wc : IntKind.i64.wrap (((f + z.length : Nat) : Int) + ((2 * o.length : Nat) : Int)) = ((f + z.length + 2 * o.length : Nat) : Int) := by rw [wrap64 (by omega) (by omega)]; omega
  have m5 : (((f + z.length + 2 * o.length : Nat) : Int)).tmod 5 = (((f + z.length + 2 * o.length) % 5 : Nat) : Int) := (Int.ofNat_tmod _ 5).symm
  have hX : (f + z.length + 2 * o.length) % 5 < 5 := Nat.mod_lt _ (by decide)
  obtain ⟨c, hname⟩ := take_one_at [118, 119, 120, 121, 122] _ hX
  simp only [List.take_succ_cons] at hname
  have wd : IntKind.i64.wrap ((((f + z.length + 2 * o.length) % 5 : Nat) : Int) + 1) = (((f + z.length + 2 * o.length) % 5 + 1 : Nat) : Int) := by rw [wrap64 (by omega) (by omega)]; omega
  have z5 : (0 : Int) ≤ (((f + z.length + 2 * o.length) % 5 : Nat) : Int) := by omega
  have le5 : (((f + z.length + 2 * o.length) % 5 : Nat) : Int) ≤ (((f + z.length + 2 * o.length) % 5 + 1 : Nat) : Int) := by omega
  have lt5 : (((f + z.length + 2 * o.length) % 5 + 1 : Nat) : Int) ≤ ((5 : Nat) : Int) := by omega
  have w1 : IntKind.i64.wrap ((f : Int) - 1) = (f : Int) - 1 := wrap64 (by omega) (by omega)
  have w2 : IntKind.i64.wrap ((f : Int) - 2) = (f : Int) - 2 := wrap64 (by omega) (by omega)
  have hrun : ∀ y, ((evC II EE (withOpt (opt 43) pf) MX (strip (bodyOf Tryz.f43)) (st0 l p 0 (f : Int) z o)).bind (outK II Tryz.f43.results.toList (.r 0 0 :: [N 0, N (f : Int), S z, S o]))) = some y → EE 43 [srcL l p, N 0, N (f : Int), S z, S o] = some y := fun y h => EE_lend T_draw (by decide) (Nat.le_of_ble_eq_true rfl) (src_cl l p) rfl h
  rw [show opt 43 = [] from rfl] at hrun
  simp only [st0, bodyOf, Tryz.f43, SA] at hrun
  simp only [nf, wa, wb, wc, m5, wd, z5, le5, lt5, hname, w1, w2, TMA, Int.toNat_natCast, Nat.mul_one, RR, IA, PA, RA0, RA1, RA2, RA3, RA4, RA5, RA6, RA7, RA8, RA9, RA10, Nat.reduceAdd, Nat.reduceMul, Nat.reduceEqDiff, Nat.reduceLeDiff, Nat.reduceLT, Int.reduceToNat, Int.reduceLT, Int.reduceLE, Int.reduceEq, Int.reduceNeg, Int.reduceAdd, Int.reduceSub, Int.reduceMul, reduceIte] at hrun
  rw [pick_call (withOpt_nil_lo (by decide)) (by rfl) hv] at hrun
  subst e
  obtain ⟨s1, p1, hs1, sp1, sl1, pl1⟩ := ih 0 0 z o (p + 1) (by omega) (by omega) (by omega) (by omega) (by omega)
  simp only [nf, wa, wb, wc, m5, wd, z5, le5, lt5, hname, w1, w2, TMA, Int.toNat_natCast, Nat.mul_one, RR, IA, PA, RA0, RA1, RA2, RA3, RA4, RA5, RA6, RA7, RA8, RA9, RA10, Nat.reduceAdd, Nat.reduceMul, Nat.reduceEqDiff, Nat.reduceLeDiff, Nat.reduceLT, Int.reduceToNat, Int.reduceLT, Int.reduceLE, Int.reduceEq, Int.reduceNeg, Int.reduceAdd, Int.reduceSub, Int.reduceMul, reduceIte] at hrun
  rw [draw_call (by rfl) hs1] at hrun
  simp only [nf, wa, wb, wc, m5, wd, z5, le5, lt5, hname, w1, w2, TMA, Int.toNat_natCast, Nat.mul_one, RR, IA, PA, RA0, RA1, RA2, RA3, RA4, RA5, RA6, RA7, RA8, RA9, RA10, Nat.reduceAdd, Nat.reduceMul, Nat.reduceEqDiff, Nat.reduceLeDiff, Nat.reduceLT, Int.reduceToNat, Int.reduceLT, Int.reduceLE, Int.reduceEq, Int.reduceNeg, Int.reduceAdd, Int.reduceSub, Int.reduceMul, reduceIte] at hrun
  exact ⟨s1, p1, hrun _ (out_one rfl rfl rfl (src_cl l p1) rfl), by (try simp only [List.length_append, List.length_cons, List.length_nil]); omega, by (try simp only [List.length_append, List.length_cons, List.length_nil]); omega, by omega⟩
set_option maxHeartbeats 16000000 in
theorem draw_s04 (l : List UInt8) (hl : l.length ≤ 2000) (k : Nat) (hk : k < 6) (ih : DrawOk l k) (fuel : Int) (z o : List UInt8) (p : Nat) (hf : fuel ≤ ((k + 1 : Nat) : Int)) (h0 : 0 < fuel) (hz : z.length + (k + 1) ≤ 100) (ho : o.length + (k + 1) ≤ 100) (hp : p + cD (k + 1) ≤ 1000000) (v : Int) (hv : EE 13 [srcL l p, N 7] = some (.t [N v, .t [srcL l (p + 1), N 7]])) (e0 : ¬ v = 0) (e1 : ¬ v = 1) (e2 : ¬ v = 2) (e3 : ¬ v = 3) : DrawR l (k + 1) 0 fuel z o p := by
  have hcc : cD (k + 1) = 2 * cD k + 2 := rfl
  have hbb : bD (k + 1) = 2 * bD k + 5 := rfl
  have hbk : bD k ≤ 1000 := bD_le k (by omega)
  obtain ⟨f, rfl⟩ : ∃ f : Nat, fuel = (f : Int) := ⟨fuel.toNat, by omega⟩
  have nf : ¬ ((f : Int) ≤ 0) := by omega
  have wa : IntKind.i64.wrap ((f : Int) + (z.length : Int)) = ((f + z.length : Nat) : Int) := by rw [wrap64 (by omega) (by omega)]; omega
  have wb : IntKind.i64.wrap (2 * (o.length : Int)) = ((2 * o.length : Nat) : Int) := by rw [wrap64 (by omega) (by omega)]; omega
  have wc : IntKind.i64.wrap (((f + z.length : Nat) : Int) + ((2 * o.length : Nat) : Int)) = ((f + z.length + 2 * o.length : Nat) : Int) := by rw [wrap64 (by omega) (by omega)]; omega
  have m5 : (((f + z.length + 2 * o.length : Nat) : Int)).tmod 5 = (((f + z.length + 2 * o.length) % 5 : Nat) : Int) := (Int.ofNat_tmod _ 5).symm
  have hX : (f + z.length + 2 * o.length) % 5 < 5 := Nat.mod_lt _ (by decide)
  obtain ⟨c, hname⟩ := take_one_at [118, 119, 120, 121, 122] _ hX
  simp only [List.take_succ_cons] at hname
  have wd : IntKind.i64.wrap ((((f + z.length + 2 * o.length) % 5 : Nat) : Int) + 1) = (((f + z.length + 2 * o.length) % 5 + 1 : Nat) : Int) := by rw [wrap64 (by omega) (by omega)]; omega
  have z5 : (0 : Int) ≤ (((f + z.length + 2 * o.length) % 5 : Nat) : Int) := by omega
  have le5 : (((f + z.length + 2 * o.length) % 5 : Nat) : Int) ≤ (((f + z.length + 2 * o.length) % 5 + 1 : Nat) : Int) := by omega
  have lt5 : (((f + z.length + 2 * o.length) % 5 + 1 : Nat) : Int) ≤ ((5 : Nat) : Int) := by omega
  have w1 : IntKind.i64.wrap ((f : Int) - 1) = (f : Int) - 1 := wrap64 (by omega) (by omega)
  have w2 : IntKind.i64.wrap ((f : Int) - 2) = (f : Int) - 2 := wrap64 (by omega) (by omega)
  have hrun : ∀ y, ((evC II EE (withOpt (opt 43) pf) MX (strip (bodyOf Tryz.f43)) (st0 l p 0 (f : Int) z o)).bind (outK II Tryz.f43.results.toList (.r 0 0 :: [N 0, N (f : Int), S z, S o]))) = some y → EE 43 [srcL l p, N 0, N (f : Int), S z, S o] = some y := fun y h => EE_lend T_draw (by decide) (Nat.le_of_ble_eq_true rfl) (src_cl l p) rfl h
  rw [show opt 43 = [] from rfl] at hrun
  simp only [st0, bodyOf, Tryz.f43, SA] at hrun
  simp only [nf, wa, wb, wc, m5, wd, z5, le5, lt5, hname, w1, w2, TMA, Int.toNat_natCast, Nat.mul_one, RR, IA, PA, RA0, RA1, RA2, RA3, RA4, RA5, RA6, RA7, RA8, RA9, RA10, Nat.reduceAdd, Nat.reduceMul, Nat.reduceEqDiff, Nat.reduceLeDiff, Nat.reduceLT, Int.reduceToNat, Int.reduceLT, Int.reduceLE, Int.reduceEq, Int.reduceNeg, Int.reduceAdd, Int.reduceSub, Int.reduceMul, reduceIte] at hrun
  rw [pick_call (withOpt_nil_lo (by decide)) (by rfl) hv] at hrun
  obtain ⟨s1, p1, hs1, sp1, sl1, pl1⟩ := ih 0 ((f : Int) - 2) z o (p + 1) (by omega) (by omega) (by omega) (by omega) (by omega)
  simp only [e0, e1, e2, e3, nf, wa, wb, wc, m5, wd, z5, le5, lt5, hname, w1, w2, TMA, Int.toNat_natCast, Nat.mul_one, RR, IA, PA, RA0, RA1, RA2, RA3, RA4, RA5, RA6, RA7, RA8, RA9, RA10, Nat.reduceAdd, Nat.reduceMul, Nat.reduceEqDiff, Nat.reduceLeDiff, Nat.reduceLT, Int.reduceToNat, Int.reduceLT, Int.reduceLE, Int.reduceEq, Int.reduceNeg, Int.reduceAdd, Int.reduceSub, Int.reduceMul, reduceIte] at hrun
  rw [draw_call (by rfl) hs1] at hrun
  have k1 := cat ([40]) (s1) (by (try simp only [List.length_append, List.length_cons, List.length_nil]); omega)
  try simp only [List.cons_append, List.nil_append] at k1
  obtain ⟨x2, hm2, hx2⟩ := of_ev l hl p1 (by omega) true ops6L (by decide) (by decide)
  have xl2 : x2.length = 1 := (show ∀ s ∈ (ops6L : List (List UInt8)), s.length = 1 by decide) _ hm2
  simp only [e0, e1, e2, e3, nf, wa, wb, wc, m5, wd, z5, le5, lt5, hname, w1, w2, k1, ops6, TMA, Int.toNat_natCast, Nat.mul_one, RR, IA, PA, RA0, RA1, RA2, RA3, RA4, RA5, RA6, RA7, RA8, RA9, RA10, Nat.reduceAdd, Nat.reduceMul, Nat.reduceEqDiff, Nat.reduceLeDiff, Nat.reduceLT, Int.reduceToNat, Int.reduceLT, Int.reduceLE, Int.reduceEq, Int.reduceNeg, Int.reduceAdd, Int.reduceSub, Int.reduceMul, reduceIte] at hrun
  rw [of_call (L := ops6L) (n := 6) rfl (by rfl) hx2] at hrun
  have k2 := cat ([40] ++ s1) (x2) (by (try simp only [List.length_append, List.length_cons, List.length_nil]); omega)
  try simp only [List.cons_append, List.nil_append] at k2
  obtain ⟨s3, p3, hs3, sp3, sl3, pl3⟩ := ih 0 ((f : Int) - 2) z o (p1 + 1) (by omega) (by omega) (by omega) (by omega) (by omega)
  simp only [e0, e1, e2, e3, nf, wa, wb, wc, m5, wd, z5, le5, lt5, hname, w1, w2, k1, ops6, k2, TMA, Int.toNat_natCast, Nat.mul_one, RR, IA, PA, RA0, RA1, RA2, RA3, RA4, RA5, RA6, RA7, RA8, RA9, RA10, Nat.reduceAdd, Nat.reduceMul, Nat.reduceEqDiff, Nat.reduceLeDiff, Nat.reduceLT, Int.reduceToNat, Int.reduceLT, Int.reduceLE, Int.reduceEq, Int.reduceNeg, Int.reduceAdd, Int.reduceSub, Int.reduceMul, reduceIte] at hrun
  rw [draw_call (by rfl) hs3] at hrun
  have k3 := cat ([40] ++ s1 ++ x2) (s3) (by (try simp only [List.length_append, List.length_cons, List.length_nil]); omega)
  try simp only [List.cons_append, List.nil_append] at k3
  have k4 := cat ([40] ++ s1 ++ x2 ++ s3) ([41]) (by (try simp only [List.length_append, List.length_cons, List.length_nil]); omega)
  try simp only [List.cons_append, List.nil_append] at k4
  simp only [e0, e1, e2, e3, nf, wa, wb, wc, m5, wd, z5, le5, lt5, hname, w1, w2, k1, ops6, k2, k3, k4, TMA, Int.toNat_natCast, Nat.mul_one, RR, IA, PA, RA0, RA1, RA2, RA3, RA4, RA5, RA6, RA7, RA8, RA9, RA10, Nat.reduceAdd, Nat.reduceMul, Nat.reduceEqDiff, Nat.reduceLeDiff, Nat.reduceLT, Int.reduceToNat, Int.reduceLT, Int.reduceLE, Int.reduceEq, Int.reduceNeg, Int.reduceAdd, Int.reduceSub, Int.reduceMul, reduceIte] at hrun
  exact ⟨[40] ++ s1 ++ x2 ++ s3 ++ [41], p3, hrun _ (out_one rfl rfl rfl (src_cl l p3) rfl), by (try simp only [List.length_append, List.length_cons, List.length_nil]); omega, by (try simp only [List.length_append, List.length_cons, List.length_nil]); omega, by omega⟩
end
end Go.Proofs.YtegbkihgnofkfaaGreatDoor.Ev

/-
Draws: fuel, depth 1 (written by wip/tools/gen_de.py).
-/
namespace Go.Proofs.YtegbkihgnofkfaaGreatDoor.Ev
section
set_option linter.unusedVariables false
set_option linter.unusedSimpArgs false
open Go Go.RowKit
set_option linter.unusedVariables false
set_option linter.unusedSimpArgs false
set_option maxHeartbeats 16000000 in
theorem draw_s10 (l : List UInt8) (hl : l.length ≤ 2000) (k : Nat) (hk : k < 6) (ih : DrawOk l k) (fuel : Int) (z o : List UInt8) (p : Nat) (hf : fuel ≤ ((k + 1 : Nat) : Int)) (h0 : 0 < fuel) (hz : z.length + (k + 1) ≤ 100) (ho : o.length + (k + 1) ≤ 100) (hp : p + cD (k + 1) ≤ 1000000) (v : Int) (hv : EE 13 [srcL l p, N 7] = some (.t [N v, .t [srcL l (p + 1), N 7]])) (e : v = 0) : DrawR l (k + 1) 1 fuel z o p := by
  have hcc : cD (k + 1) = 2 * cD k + 2 := rfl
  have hbb : bD (k + 1) = 2 * bD k + 5 := rfl
  have hbk : bD k ≤ 1000 := bD_le k (by omega)
  obtain ⟨f, rfl⟩ : ∃ f : Nat, fuel = (f : Int) := ⟨fuel.toNat, by omega⟩
  have nf : ¬ ((f : Int) ≤ 0) := by omega
  have wa : IntKind.i64.wrap ((f : Int) + (z.length : Int)) = ((f + z.length : Nat) : Int) := by rw [wrap64 (by omega) (by omega)]; omega
  have wb : IntKind.i64.wrap (2 * (o.length : Int)) = ((2 * o.length : Nat) : Int) := by rw [wrap64 (by omega) (by omega)]; omega
  have wc : IntKind.i64.wrap (((f + z.length : Nat) : Int) + ((2 * o.length : Nat) : Int)) = ((f + z.length + 2 * o.length : Nat) : Int) := by rw [wrap64 (by omega) (by omega)]; omega
  have m5 : (((f + z.length + 2 * o.length : Nat) : Int)).tmod 5 = (((f + z.length + 2 * o.length) % 5 : Nat) : Int) := (Int.ofNat_tmod _ 5).symm
  have hX : (f + z.length + 2 * o.length) % 5 < 5 := Nat.mod_lt _ (by decide)
  obtain ⟨c, hname⟩ := take_one_at [118, 119, 120, 121, 122] _ hX
  simp only [List.take_succ_cons] at hname
  have wd : IntKind.i64.wrap ((((f + z.length + 2 * o.length) % 5 : Nat) : Int) + 1) = (((f + z.length + 2 * o.length) % 5 + 1 : Nat) : Int) := by rw [wrap64 (by omega) (by omega)]; omega
  have z5 : (0 : Int) ≤ (((f + z.length + 2 * o.length) % 5 : Nat) : Int) := by omega
  have le5 : (((f + z.length + 2 * o.length) % 5 : Nat) : Int) ≤ (((f + z.length + 2 * o.length) % 5 + 1 : Nat) : Int) := by omega
  have lt5 : (((f + z.length + 2 * o.length) % 5 + 1 : Nat) : Int) ≤ ((5 : Nat) : Int) := by omega
  have w1 : IntKind.i64.wrap ((f : Int) - 1) = (f : Int) - 1 := wrap64 (by omega) (by omega)
  have w2 : IntKind.i64.wrap ((f : Int) - 2) = (f : Int) - 2 := wrap64 (by omega) (by omega)
  have hrun : ∀ y, ((evC II EE (withOpt (opt 43) pf) MX (strip (bodyOf Tryz.f43)) (st0 l p 1 (f : Int) z o)).bind (outK II Tryz.f43.results.toList (.r 0 0 :: [N 1, N (f : Int), S z, S o]))) = some y → EE 43 [srcL l p, N 1, N (f : Int), S z, S o] = some y := fun y h => EE_lend T_draw (by decide) (Nat.le_of_ble_eq_true rfl) (src_cl l p) rfl h
  rw [show opt 43 = [] from rfl] at hrun
  simp only [st0, bodyOf, Tryz.f43, SA] at hrun
  simp only [nf, wa, wb, wc, m5, wd, z5, le5, lt5, hname, w1, w2, TMA, Int.toNat_natCast, Nat.mul_one, RR, IA, PA, RA0, RA1, RA2, RA3, RA4, RA5, RA6, RA7, RA8, RA9, RA10, Nat.reduceAdd, Nat.reduceMul, Nat.reduceEqDiff, Nat.reduceLeDiff, Nat.reduceLT, Int.reduceToNat, Int.reduceLT, Int.reduceLE, Int.reduceEq, Int.reduceNeg, Int.reduceAdd, Int.reduceSub, Int.reduceMul, reduceIte] at hrun
  rw [pick_call (withOpt_nil_lo (by decide)) (by rfl) hv] at hrun
  subst e
  obtain ⟨s1, p1, hs1, sp1, sl1, pl1⟩ := ih 0 ((f : Int) - 1) z o (p + 1) (by omega) (by omega) (by omega) (by omega) (by omega)
  simp only [nf, wa, wb, wc, m5, wd, z5, le5, lt5, hname, w1, w2, TMA, Int.toNat_natCast, Nat.mul_one, RR, IA, PA, RA0, RA1, RA2, RA3, RA4, RA5, RA6, RA7, RA8, RA9, RA10, Nat.reduceAdd, Nat.reduceMul, Nat.reduceEqDiff, Nat.reduceLeDiff, Nat.reduceLT, Int.reduceToNat, Int.reduceLT, Int.reduceLE, Int.reduceEq, Int.reduceNeg, Int.reduceAdd, Int.reduceSub, Int.reduceMul, reduceIte] at hrun
  rw [draw_call (by rfl) hs1] at hrun
  have k1 := cat ([73]) (s1) (by (try simp only [List.length_append, List.length_cons, List.length_nil]); omega)
  try simp only [List.cons_append, List.nil_append] at k1
  simp only [nf, wa, wb, wc, m5, wd, z5, le5, lt5, hname, w1, w2, k1, TMA, Int.toNat_natCast, Nat.mul_one, RR, IA, PA, RA0, RA1, RA2, RA3, RA4, RA5, RA6, RA7, RA8, RA9, RA10, Nat.reduceAdd, Nat.reduceMul, Nat.reduceEqDiff, Nat.reduceLeDiff, Nat.reduceLT, Int.reduceToNat, Int.reduceLT, Int.reduceLE, Int.reduceEq, Int.reduceNeg, Int.reduceAdd, Int.reduceSub, Int.reduceMul, reduceIte] at hrun
  exact ⟨[73] ++ s1, p1, hrun _ (out_one rfl rfl rfl (src_cl l p1) rfl), by (try simp only [List.length_append, List.length_cons, List.length_nil]); omega, by (try simp only [List.length_append, List.length_cons, List.length_nil]); omega, by omega⟩
set_option maxHeartbeats 16000000 in
theorem draw_s11 (l : List UInt8) (hl : l.length ≤ 2000) (k : Nat) (hk : k < 6) (ih : DrawOk l k) (fuel : Int) (z o : List UInt8) (p : Nat) (hf : fuel ≤ ((k + 1 : Nat) : Int)) (h0 : 0 < fuel) (hz : z.length + (k + 1) ≤ 100) (ho : o.length + (k + 1) ≤ 100) (hp : p + cD (k + 1) ≤ 1000000) (v : Int) (hv : EE 13 [srcL l p, N 7] = some (.t [N v, .t [srcL l (p + 1), N 7]])) (e : v = 1) : DrawR l (k + 1) 1 fuel z o p := by
  have hcc : cD (k + 1) = 2 * cD k + 2 := rfl
  have hbb : bD (k + 1) = 2 * bD k + 5 := rfl
  have hbk : bD k ≤ 1000 := bD_le k (by omega)
  obtain ⟨f, rfl⟩ : ∃ f : Nat, fuel = (f : Int) := ⟨fuel.toNat, by omega⟩
  have nf : ¬ ((f : Int) ≤ 0) := by omega
  have wa : IntKind.i64.wrap ((f : Int) + (z.length : Int)) = ((f + z.length : Nat) : Int) := by rw [wrap64 (by omega) (by omega)]; omega
  have wb : IntKind.i64.wrap (2 * (o.length : Int)) = ((2 * o.length : Nat) : Int) := by rw [wrap64 (by omega) (by omega)]; omega
  have wc : IntKind.i64.wrap (((f + z.length : Nat) : Int) + ((2 * o.length : Nat) : Int)) = ((f + z.length + 2 * o.length : Nat) : Int) := by rw [wrap64 (by omega) (by omega)]; omega
  have m5 : (((f + z.length + 2 * o.length : Nat) : Int)).tmod 5 = (((f + z.length + 2 * o.length) % 5 : Nat) : Int) := (Int.ofNat_tmod _ 5).symm
  have hX : (f + z.length + 2 * o.length) % 5 < 5 := Nat.mod_lt _ (by decide)
  obtain ⟨c, hname⟩ := take_one_at [118, 119, 120, 121, 122] _ hX
  simp only [List.take_succ_cons] at hname
  have wd : IntKind.i64.wrap ((((f + z.length + 2 * o.length) % 5 : Nat) : Int) + 1) = (((f + z.length + 2 * o.length) % 5 + 1 : Nat) : Int) := by rw [wrap64 (by omega) (by omega)]; omega
  have z5 : (0 : Int) ≤ (((f + z.length + 2 * o.length) % 5 : Nat) : Int) := by omega
  have le5 : (((f + z.length + 2 * o.length) % 5 : Nat) : Int) ≤ (((f + z.length + 2 * o.length) % 5 + 1 : Nat) : Int) := by omega
  have lt5 : (((f + z.length + 2 * o.length) % 5 + 1 : Nat) : Int) ≤ ((5 : Nat) : Int) := by omega
  have w1 : IntKind.i64.wrap ((f : Int) - 1) = (f : Int) - 1 := wrap64 (by omega) (by omega)
  have w2 : IntKind.i64.wrap ((f : Int) - 2) = (f : Int) - 2 := wrap64 (by omega) (by omega)
  have hrun : ∀ y, ((evC II EE (withOpt (opt 43) pf) MX (strip (bodyOf Tryz.f43)) (st0 l p 1 (f : Int) z o)).bind (outK II Tryz.f43.results.toList (.r 0 0 :: [N 1, N (f : Int), S z, S o]))) = some y → EE 43 [srcL l p, N 1, N (f : Int), S z, S o] = some y := fun y h => EE_lend T_draw (by decide) (Nat.le_of_ble_eq_true rfl) (src_cl l p) rfl h
  rw [show opt 43 = [] from rfl] at hrun
  simp only [st0, bodyOf, Tryz.f43, SA] at hrun
  simp only [nf, wa, wb, wc, m5, wd, z5, le5, lt5, hname, w1, w2, TMA, Int.toNat_natCast, Nat.mul_one, RR, IA, PA, RA0, RA1, RA2, RA3, RA4, RA5, RA6, RA7, RA8, RA9, RA10, Nat.reduceAdd, Nat.reduceMul, Nat.reduceEqDiff, Nat.reduceLeDiff, Nat.reduceLT, Int.reduceToNat, Int.reduceLT, Int.reduceLE, Int.reduceEq, Int.reduceNeg, Int.reduceAdd, Int.reduceSub, Int.reduceMul, reduceIte] at hrun
  rw [pick_call (withOpt_nil_lo (by decide)) (by rfl) hv] at hrun
  subst e
  obtain ⟨x1, hm1, hx1⟩ := of_ev l hl (p + 1) (by omega) true [[82], [80]] (by decide) (by decide)
  have xl1 : x1.length = 1 := (show ∀ s ∈ ([[82], [80]] : List (List UInt8)), s.length = 1 by decide) _ hm1
  simp only [nf, wa, wb, wc, m5, wd, z5, le5, lt5, hname, w1, w2, TMA, Int.toNat_natCast, Nat.mul_one, RR, IA, PA, RA0, RA1, RA2, RA3, RA4, RA5, RA6, RA7, RA8, RA9, RA10, Nat.reduceAdd, Nat.reduceMul, Nat.reduceEqDiff, Nat.reduceLeDiff, Nat.reduceLT, Int.reduceToNat, Int.reduceLT, Int.reduceLE, Int.reduceEq, Int.reduceNeg, Int.reduceAdd, Int.reduceSub, Int.reduceMul, reduceIte] at hrun
  rw [of_call2 (by rfl) hx1] at hrun
  obtain ⟨s2, p2, hs2, sp2, sl2, pl2⟩ := ih 1 ((f : Int) - 1) z o ((p + 1) + 1) (by omega) (by omega) (by omega) (by omega) (by omega)
  simp only [nf, wa, wb, wc, m5, wd, z5, le5, lt5, hname, w1, w2, TMA, Int.toNat_natCast, Nat.mul_one, RR, IA, PA, RA0, RA1, RA2, RA3, RA4, RA5, RA6, RA7, RA8, RA9, RA10, Nat.reduceAdd, Nat.reduceMul, Nat.reduceEqDiff, Nat.reduceLeDiff, Nat.reduceLT, Int.reduceToNat, Int.reduceLT, Int.reduceLE, Int.reduceEq, Int.reduceNeg, Int.reduceAdd, Int.reduceSub, Int.reduceMul, reduceIte] at hrun
  rw [draw_call (by rfl) hs2] at hrun
  have k1 := cat (x1) (s2) (by (try simp only [List.length_append, List.length_cons, List.length_nil]); omega)
  try simp only [List.cons_append, List.nil_append] at k1
  simp only [nf, wa, wb, wc, m5, wd, z5, le5, lt5, hname, w1, w2, k1, TMA, Int.toNat_natCast, Nat.mul_one, RR, IA, PA, RA0, RA1, RA2, RA3, RA4, RA5, RA6, RA7, RA8, RA9, RA10, Nat.reduceAdd, Nat.reduceMul, Nat.reduceEqDiff, Nat.reduceLeDiff, Nat.reduceLT, Int.reduceToNat, Int.reduceLT, Int.reduceLE, Int.reduceEq, Int.reduceNeg, Int.reduceAdd, Int.reduceSub, Int.reduceMul, reduceIte] at hrun
  exact ⟨x1 ++ s2, p2, hrun _ (out_one rfl rfl rfl (src_cl l p2) rfl), by (try simp only [List.length_append, List.length_cons, List.length_nil]); omega, by (try simp only [List.length_append, List.length_cons, List.length_nil]); omega, by omega⟩
set_option maxHeartbeats 16000000 in
theorem draw_s12 (l : List UInt8) (hl : l.length ≤ 2000) (k : Nat) (hk : k < 6) (ih : DrawOk l k) (fuel : Int) (z o : List UInt8) (p : Nat) (hf : fuel ≤ ((k + 1 : Nat) : Int)) (h0 : 0 < fuel) (hz : z.length + (k + 1) ≤ 100) (ho : o.length + (k + 1) ≤ 100) (hp : p + cD (k + 1) ≤ 1000000) (v : Int) (hv : EE 13 [srcL l p, N 7] = some (.t [N v, .t [srcL l (p + 1), N 7]])) (e : v = 2) : DrawR l (k + 1) 1 fuel z o p := by
  have hcc : cD (k + 1) = 2 * cD k + 2 := rfl
  have hbb : bD (k + 1) = 2 * bD k + 5 := rfl
  have hbk : bD k ≤ 1000 := bD_le k (by omega)
  obtain ⟨f, rfl⟩ : ∃ f : Nat, fuel = (f : Int) := ⟨fuel.toNat, by omega⟩
  have nf : ¬ ((f : Int) ≤ 0) := by omega
  have wa : IntKind.i64.wrap ((f : Int) + (z.length : Int)) = ((f + z.length : Nat) : Int) := by rw [wrap64 (by omega) (by omega)]; omega
  have wb : IntKind.i64.wrap (2 * (o.length : Int)) = ((2 * o.length : Nat) : Int) := by rw [wrap64 (by omega) (by omega)]; omega
  have wc : IntKind.i64.wrap (((f + z.length : Nat) : Int) + ((2 * o.length : Nat) : Int)) = ((f + z.length + 2 * o.length : Nat) : Int) := by rw [wrap64 (by omega) (by omega)]; omega
  have m5 : (((f + z.length + 2 * o.length : Nat) : Int)).tmod 5 = (((f + z.length + 2 * o.length) % 5 : Nat) : Int) := (Int.ofNat_tmod _ 5).symm
  have hX : (f + z.length + 2 * o.length) % 5 < 5 := Nat.mod_lt _ (by decide)
  obtain ⟨c, hname⟩ := take_one_at [118, 119, 120, 121, 122] _ hX
  simp only [List.take_succ_cons] at hname
  have wd : IntKind.i64.wrap ((((f + z.length + 2 * o.length) % 5 : Nat) : Int) + 1) = (((f + z.length + 2 * o.length) % 5 + 1 : Nat) : Int) := by rw [wrap64 (by omega) (by omega)]; omega
  have z5 : (0 : Int) ≤ (((f + z.length + 2 * o.length) % 5 : Nat) : Int) := by omega
  have le5 : (((f + z.length + 2 * o.length) % 5 : Nat) : Int) ≤ (((f + z.length + 2 * o.length) % 5 + 1 : Nat) : Int) := by omega
  have lt5 : (((f + z.length + 2 * o.length) % 5 + 1 : Nat) : Int) ≤ ((5 : Nat) : Int) := by omega
  have w1 : IntKind.i64.wrap ((f : Int) - 1) = (f : Int) - 1 := wrap64 (by omega) (by omega)
  have w2 : IntKind.i64.wrap ((f : Int) - 2) = (f : Int) - 2 := wrap64 (by omega) (by omega)
  have hrun : ∀ y, ((evC II EE (withOpt (opt 43) pf) MX (strip (bodyOf Tryz.f43)) (st0 l p 1 (f : Int) z o)).bind (outK II Tryz.f43.results.toList (.r 0 0 :: [N 1, N (f : Int), S z, S o]))) = some y → EE 43 [srcL l p, N 1, N (f : Int), S z, S o] = some y := fun y h => EE_lend T_draw (by decide) (Nat.le_of_ble_eq_true rfl) (src_cl l p) rfl h
  rw [show opt 43 = [] from rfl] at hrun
  simp only [st0, bodyOf, Tryz.f43, SA] at hrun
  simp only [nf, wa, wb, wc, m5, wd, z5, le5, lt5, hname, w1, w2, TMA, Int.toNat_natCast, Nat.mul_one, RR, IA, PA, RA0, RA1, RA2, RA3, RA4, RA5, RA6, RA7, RA8, RA9, RA10, Nat.reduceAdd, Nat.reduceMul, Nat.reduceEqDiff, Nat.reduceLeDiff, Nat.reduceLT, Int.reduceToNat, Int.reduceLT, Int.reduceLE, Int.reduceEq, Int.reduceNeg, Int.reduceAdd, Int.reduceSub, Int.reduceMul, reduceIte] at hrun
  rw [pick_call (withOpt_nil_lo (by decide)) (by rfl) hv] at hrun
  subst e
  obtain ⟨s1, p1, hs1, sp1, sl1, pl1⟩ := ih 2 ((f : Int) - 1) z o (p + 1) (by omega) (by omega) (by omega) (by omega) (by omega)
  simp only [nf, wa, wb, wc, m5, wd, z5, le5, lt5, hname, w1, w2, TMA, Int.toNat_natCast, Nat.mul_one, RR, IA, PA, RA0, RA1, RA2, RA3, RA4, RA5, RA6, RA7, RA8, RA9, RA10, Nat.reduceAdd, Nat.reduceMul, Nat.reduceEqDiff, Nat.reduceLeDiff, Nat.reduceLT, Int.reduceToNat, Int.reduceLT, Int.reduceLE, Int.reduceEq, Int.reduceNeg, Int.reduceAdd, Int.reduceSub, Int.reduceMul, reduceIte] at hrun
  rw [draw_call (by rfl) hs1] at hrun
  have k1 := cat ([67]) (s1) (by (try simp only [List.length_append, List.length_cons, List.length_nil]); omega)
  try simp only [List.cons_append, List.nil_append] at k1
  simp only [nf, wa, wb, wc, m5, wd, z5, le5, lt5, hname, w1, w2, k1, TMA, Int.toNat_natCast, Nat.mul_one, RR, IA, PA, RA0, RA1, RA2, RA3, RA4, RA5, RA6, RA7, RA8, RA9, RA10, Nat.reduceAdd, Nat.reduceMul, Nat.reduceEqDiff, Nat.reduceLeDiff, Nat.reduceLT, Int.reduceToNat, Int.reduceLT, Int.reduceLE, Int.reduceEq, Int.reduceNeg, Int.reduceAdd, Int.reduceSub, Int.reduceMul, reduceIte] at hrun
  exact ⟨[67] ++ s1, p1, hrun _ (out_one rfl rfl rfl (src_cl l p1) rfl), by (try simp only [List.length_append, List.length_cons, List.length_nil]); omega, by (try simp only [List.length_append, List.length_cons, List.length_nil]); omega, by omega⟩
set_option maxHeartbeats 16000000 in
theorem draw_s13 (l : List UInt8) (hl : l.length ≤ 2000) (k : Nat) (hk : k < 6) (ih : DrawOk l k) (fuel : Int) (z o : List UInt8) (p : Nat) (hf : fuel ≤ ((k + 1 : Nat) : Int)) (h0 : 0 < fuel) (hz : z.length + (k + 1) ≤ 100) (ho : o.length + (k + 1) ≤ 100) (hp : p + cD (k + 1) ≤ 1000000) (v : Int) (hv : EE 13 [srcL l p, N 7] = some (.t [N v, .t [srcL l (p + 1), N 7]])) (e : v = 3) : DrawR l (k + 1) 1 fuel z o p := by
  have hcc : cD (k + 1) = 2 * cD k + 2 := rfl
  have hbb : bD (k + 1) = 2 * bD k + 5 := rfl
  have hbk : bD k ≤ 1000 := bD_le k (by omega)
  obtain ⟨f, rfl⟩ : ∃ f : Nat, fuel = (f : Int) := ⟨fuel.toNat, by omega⟩
  have nf : ¬ ((f : Int) ≤ 0) := by omega
  have wa : IntKind.i64.wrap ((f : Int) + (z.length : Int)) = ((f + z.length : Nat) : Int) := by rw [wrap64 (by omega) (by omega)]; omega
  have wb : IntKind.i64.wrap (2 * (o.length : Int)) = ((2 * o.length : Nat) : Int) := by rw [wrap64 (by omega) (by omega)]; omega
  have wc : IntKind.i64.wrap (((f + z.length : Nat) : Int) + ((2 * o.length : Nat) : Int)) = ((f + z.length + 2 * o.length : Nat) : Int) := by rw [wrap64 (by omega) (by omega)]; omega
  have m5 : (((f + z.length + 2 * o.length : Nat) : Int)).tmod 5 = (((f + z.length + 2 * o.length) % 5 : Nat) : Int) := (Int.ofNat_tmod _ 5).symm
  have hX : (f + z.length + 2 * o.length) % 5 < 5 := Nat.mod_lt _ (by decide)
  obtain ⟨c, hname⟩ := take_one_at [118, 119, 120, 121, 122] _ hX
  simp only [List.take_succ_cons] at hname
  have wd : IntKind.i64.wrap ((((f + z.length + 2 * o.length) % 5 : Nat) : Int) + 1) = (((f + z.length + 2 * o.length) % 5 + 1 : Nat) : Int) := by rw [wrap64 (by omega) (by omega)]; omega
  have z5 : (0 : Int) ≤ (((f + z.length + 2 * o.length) % 5 : Nat) : Int) := by omega
  have le5 : (((f + z.length + 2 * o.length) % 5 : Nat) : Int) ≤ (((f + z.length + 2 * o.length) % 5 + 1 : Nat) : Int) := by omega
  have lt5 : (((f + z.length + 2 * o.length) % 5 + 1 : Nat) : Int) ≤ ((5 : Nat) : Int) := by omega
  have w1 : IntKind.i64.wrap ((f : Int) - 1) = (f : Int) - 1 := wrap64 (by omega) (by omega)
  have w2 : IntKind.i64.wrap ((f : Int) - 2) = (f : Int) - 2 := wrap64 (by omega) (by omega)
  have hrun : ∀ y, ((evC II EE (withOpt (opt 43) pf) MX (strip (bodyOf Tryz.f43)) (st0 l p 1 (f : Int) z o)).bind (outK II Tryz.f43.results.toList (.r 0 0 :: [N 1, N (f : Int), S z, S o]))) = some y → EE 43 [srcL l p, N 1, N (f : Int), S z, S o] = some y := fun y h => EE_lend T_draw (by decide) (Nat.le_of_ble_eq_true rfl) (src_cl l p) rfl h
  rw [show opt 43 = [] from rfl] at hrun
  simp only [st0, bodyOf, Tryz.f43, SA] at hrun
  simp only [nf, wa, wb, wc, m5, wd, z5, le5, lt5, hname, w1, w2, TMA, Int.toNat_natCast, Nat.mul_one, RR, IA, PA, RA0, RA1, RA2, RA3, RA4, RA5, RA6, RA7, RA8, RA9, RA10, Nat.reduceAdd, Nat.reduceMul, Nat.reduceEqDiff, Nat.reduceLeDiff, Nat.reduceLT, Int.reduceToNat, Int.reduceLT, Int.reduceLE, Int.reduceEq, Int.reduceNeg, Int.reduceAdd, Int.reduceSub, Int.reduceMul, reduceIte] at hrun
  rw [pick_call (withOpt_nil_lo (by decide)) (by rfl) hv] at hrun
  subst e
  have k1 := cat ([123]) ([c]) (by (try simp only [List.length_append, List.length_cons, List.length_nil]); omega)
  try simp only [List.cons_append, List.nil_append] at k1
  have k2 := cat ([123] ++ [c]) ([58]) (by (try simp only [List.length_append, List.length_cons, List.length_nil]); omega)
  try simp only [List.cons_append, List.nil_append] at k2
  obtain ⟨s1, p1, hs1, sp1, sl1, pl1⟩ := ih 1 ((f : Int) - 2) z o (p + 1) (by omega) (by omega) (by omega) (by omega) (by omega)
  simp only [nf, wa, wb, wc, m5, wd, z5, le5, lt5, hname, w1, w2, k1, k2, TMA, Int.toNat_natCast, Nat.mul_one, RR, IA, PA, RA0, RA1, RA2, RA3, RA4, RA5, RA6, RA7, RA8, RA9, RA10, Nat.reduceAdd, Nat.reduceMul, Nat.reduceEqDiff, Nat.reduceLeDiff, Nat.reduceLT, Int.reduceToNat, Int.reduceLT, Int.reduceLE, Int.reduceEq, Int.reduceNeg, Int.reduceAdd, Int.reduceSub, Int.reduceMul, reduceIte] at hrun
  rw [draw_call (by rfl) hs1] at hrun
  have k3 := cat ([123] ++ [c] ++ [58]) (s1) (by (try simp only [List.length_append, List.length_cons, List.length_nil]); omega)
  try simp only [List.cons_append, List.nil_append] at k3
  have k4 := cat ([123] ++ [c] ++ [58] ++ s1) ([62]) (by (try simp only [List.length_append, List.length_cons, List.length_nil]); omega)
  try simp only [List.cons_append, List.nil_append] at k4
  obtain ⟨z2, zl2, zh2⟩ := bind_ev z [c] (by omega) (by simp)
  obtain ⟨o2, ol2, oh2⟩ := unbind_ev o [c] (by omega)
  simp only [List.length_cons, List.length_nil] at zl2 ol2
  obtain ⟨s2, p2, hs2, sp2, sl2, pl2⟩ := ih 0 ((f : Int) - 2) z2 o2 p1 (by omega) (by omega) (by omega) (by omega) (by omega)
  simp only [nf, wa, wb, wc, m5, wd, z5, le5, lt5, hname, w1, w2, k1, k2, k3, k4, zh2, oh2, TMA, Int.toNat_natCast, Nat.mul_one, RR, IA, PA, RA0, RA1, RA2, RA3, RA4, RA5, RA6, RA7, RA8, RA9, RA10, Nat.reduceAdd, Nat.reduceMul, Nat.reduceEqDiff, Nat.reduceLeDiff, Nat.reduceLT, Int.reduceToNat, Int.reduceLT, Int.reduceLE, Int.reduceEq, Int.reduceNeg, Int.reduceAdd, Int.reduceSub, Int.reduceMul, reduceIte] at hrun
  rw [draw_call (by rfl) hs2] at hrun
  have k5 := cat ([123] ++ [c] ++ [58] ++ s1 ++ [62]) (s2) (by (try simp only [List.length_append, List.length_cons, List.length_nil]); omega)
  try simp only [List.cons_append, List.nil_append] at k5
  have k6 := cat ([123] ++ [c] ++ [58] ++ s1 ++ [62] ++ s2) ([125]) (by (try simp only [List.length_append, List.length_cons, List.length_nil]); omega)
  try simp only [List.cons_append, List.nil_append] at k6
  simp only [nf, wa, wb, wc, m5, wd, z5, le5, lt5, hname, w1, w2, k1, k2, k3, k4, zh2, oh2, k5, k6, TMA, Int.toNat_natCast, Nat.mul_one, RR, IA, PA, RA0, RA1, RA2, RA3, RA4, RA5, RA6, RA7, RA8, RA9, RA10, Nat.reduceAdd, Nat.reduceMul, Nat.reduceEqDiff, Nat.reduceLeDiff, Nat.reduceLT, Int.reduceToNat, Int.reduceLT, Int.reduceLE, Int.reduceEq, Int.reduceNeg, Int.reduceAdd, Int.reduceSub, Int.reduceMul, reduceIte] at hrun
  exact ⟨[123] ++ [c] ++ [58] ++ s1 ++ [62] ++ s2 ++ [125], p2, hrun _ (out_one rfl rfl rfl (src_cl l p2) rfl), by (try simp only [List.length_append, List.length_cons, List.length_nil]); omega, by (try simp only [List.length_append, List.length_cons, List.length_nil]); omega, by omega⟩
set_option maxHeartbeats 16000000 in
theorem draw_s14 (l : List UInt8) (hl : l.length ≤ 2000) (k : Nat) (hk : k < 6) (ih : DrawOk l k) (fuel : Int) (z o : List UInt8) (p : Nat) (hf : fuel ≤ ((k + 1 : Nat) : Int)) (h0 : 0 < fuel) (hz : z.length + (k + 1) ≤ 100) (ho : o.length + (k + 1) ≤ 100) (hp : p + cD (k + 1) ≤ 1000000) (v : Int) (hv : EE 13 [srcL l p, N 7] = some (.t [N v, .t [srcL l (p + 1), N 7]])) (e : v = 4) : DrawR l (k + 1) 1 fuel z o p := by
  have hcc : cD (k + 1) = 2 * cD k + 2 := rfl
  have hbb : bD (k + 1) = 2 * bD k + 5 := rfl
  have hbk : bD k ≤ 1000 := bD_le k (by omega)
  obtain ⟨f, rfl⟩ : ∃ f : Nat, fuel = (f : Int) := ⟨fuel.toNat, by omega⟩
  have nf : ¬ ((f : Int) ≤ 0) := by omega
  have wa : IntKind.i64.wrap ((f : Int) + (z.length : Int)) = ((f + z.length : Nat) : Int) := by rw [wrap64 (by omega) (by omega)]; omega
  have wb : IntKind.i64.wrap (2 * (o.length : Int)) = ((2 * o.length : Nat) : Int) := by rw [wrap64 (by omega) (by omega)]; omega
  have wc : IntKind.i64.wrap (((f + z.length : Nat) : Int) + ((2 * o.length : Nat) : Int)) = ((f + z.length + 2 * o.length : Nat) : Int) := by rw [wrap64 (by omega) (by omega)]; omega
  have m5 : (((f + z.length + 2 * o.length : Nat) : Int)).tmod 5 = (((f + z.length + 2 * o.length) % 5 : Nat) : Int) := (Int.ofNat_tmod _ 5).symm
  have hX : (f + z.length + 2 * o.length) % 5 < 5 := Nat.mod_lt _ (by decide)
  obtain ⟨c, hname⟩ := take_one_at [118, 119, 120, 121, 122] _ hX
  simp only [List.take_succ_cons] at hname
  have wd : IntKind.i64.wrap ((((f + z.length + 2 * o.length) % 5 : Nat) : Int) + 1) = (((f + z.length + 2 * o.length) % 5 + 1 : Nat) : Int) := by rw [wrap64 (by omega) (by omega)]; omega
  have z5 : (0 : Int) ≤ (((f + z.length + 2 * o.length) % 5 : Nat) : Int) := by omega
  have le5 : (((f + z.length + 2 * o.length) % 5 : Nat) : Int) ≤ (((f + z.length + 2 * o.length) % 5 + 1 : Nat) : Int) := by omega
  have lt5 : (((f + z.length + 2 * o.length) % 5 + 1 : Nat) : Int) ≤ ((5 : Nat) : Int) := by omega
  have w1 : IntKind.i64.wrap ((f : Int) - 1) = (f : Int) - 1 := wrap64 (by omega) (by omega)
  have w2 : IntKind.i64.wrap ((f : Int) - 2) = (f : Int) - 2 := wrap64 (by omega) (by omega)
  have hrun : ∀ y, ((evC II EE (withOpt (opt 43) pf) MX (strip (bodyOf Tryz.f43)) (st0 l p 1 (f : Int) z o)).bind (outK II Tryz.f43.results.toList (.r 0 0 :: [N 1, N (f : Int), S z, S o]))) = some y → EE 43 [srcL l p, N 1, N (f : Int), S z, S o] = some y := fun y h => EE_lend T_draw (by decide) (Nat.le_of_ble_eq_true rfl) (src_cl l p) rfl h
  rw [show opt 43 = [] from rfl] at hrun
  simp only [st0, bodyOf, Tryz.f43, SA] at hrun
  simp only [nf, wa, wb, wc, m5, wd, z5, le5, lt5, hname, w1, w2, TMA, Int.toNat_natCast, Nat.mul_one, RR, IA, PA, RA0, RA1, RA2, RA3, RA4, RA5, RA6, RA7, RA8, RA9, RA10, Nat.reduceAdd, Nat.reduceMul, Nat.reduceEqDiff, Nat.reduceLeDiff, Nat.reduceLT, Int.reduceToNat, Int.reduceLT, Int.reduceLE, Int.reduceEq, Int.reduceNeg, Int.reduceAdd, Int.reduceSub, Int.reduceMul, reduceIte] at hrun
  rw [pick_call (withOpt_nil_lo (by decide)) (by rfl) hv] at hrun
  subst e
  have k1 := cat ([91]) ([c]) (by (try simp only [List.length_append, List.length_cons, List.length_nil]); omega)
  try simp only [List.cons_append, List.nil_append] at k1
  have k2 := cat ([91] ++ [c]) ([58]) (by (try simp only [List.length_append, List.length_cons, List.length_nil]); omega)
  try simp only [List.cons_append, List.nil_append] at k2
  obtain ⟨s1, p1, hs1, sp1, sl1, pl1⟩ := ih 2 ((f : Int) - 2) z o (p + 1) (by omega) (by omega) (by omega) (by omega) (by omega)
  simp only [nf, wa, wb, wc, m5, wd, z5, le5, lt5, hname, w1, w2, k1, k2, TMA, Int.toNat_natCast, Nat.mul_one, RR, IA, PA, RA0, RA1, RA2, RA3, RA4, RA5, RA6, RA7, RA8, RA9, RA10, Nat.reduceAdd, Nat.reduceMul, Nat.reduceEqDiff, Nat.reduceLeDiff, Nat.reduceLT, Int.reduceToNat, Int.reduceLT, Int.reduceLE, Int.reduceEq, Int.reduceNeg, Int.reduceAdd, Int.reduceSub, Int.reduceMul, reduceIte] at hrun
  rw [draw_call (by rfl) hs1] at hrun
  have k3 := cat ([91] ++ [c] ++ [58]) (s1) (by (try simp only [List.length_append, List.length_cons, List.length_nil]); omega)
  try simp only [List.cons_append, List.nil_append] at k3
  have k4 := cat ([91] ++ [c] ++ [58] ++ s1) ([62]) (by (try simp only [List.length_append, List.length_cons, List.length_nil]); omega)
  try simp only [List.cons_append, List.nil_append] at k4
  obtain ⟨z2, zl2, zh2⟩ := unbind_ev z [c] (by omega)
  obtain ⟨o2, ol2, oh2⟩ := bind_ev o [c] (by omega) (by simp)
  simp only [List.length_cons, List.length_nil] at zl2 ol2
  obtain ⟨s2, p2, hs2, sp2, sl2, pl2⟩ := ih 0 ((f : Int) - 2) z2 o2 p1 (by omega) (by omega) (by omega) (by omega) (by omega)
  simp only [nf, wa, wb, wc, m5, wd, z5, le5, lt5, hname, w1, w2, k1, k2, k3, k4, zh2, oh2, TMA, Int.toNat_natCast, Nat.mul_one, RR, IA, PA, RA0, RA1, RA2, RA3, RA4, RA5, RA6, RA7, RA8, RA9, RA10, Nat.reduceAdd, Nat.reduceMul, Nat.reduceEqDiff, Nat.reduceLeDiff, Nat.reduceLT, Int.reduceToNat, Int.reduceLT, Int.reduceLE, Int.reduceEq, Int.reduceNeg, Int.reduceAdd, Int.reduceSub, Int.reduceMul, reduceIte] at hrun
  rw [draw_call (by rfl) hs2] at hrun
  have k5 := cat ([91] ++ [c] ++ [58] ++ s1 ++ [62]) (s2) (by (try simp only [List.length_append, List.length_cons, List.length_nil]); omega)
  try simp only [List.cons_append, List.nil_append] at k5
  have k6 := cat ([91] ++ [c] ++ [58] ++ s1 ++ [62] ++ s2) ([93]) (by (try simp only [List.length_append, List.length_cons, List.length_nil]); omega)
  try simp only [List.cons_append, List.nil_append] at k6
  simp only [nf, wa, wb, wc, m5, wd, z5, le5, lt5, hname, w1, w2, k1, k2, k3, k4, zh2, oh2, k5, k6, TMA, Int.toNat_natCast, Nat.mul_one, RR, IA, PA, RA0, RA1, RA2, RA3, RA4, RA5, RA6, RA7, RA8, RA9, RA10, Nat.reduceAdd, Nat.reduceMul, Nat.reduceEqDiff, Nat.reduceLeDiff, Nat.reduceLT, Int.reduceToNat, Int.reduceLT, Int.reduceLE, Int.reduceEq, Int.reduceNeg, Int.reduceAdd, Int.reduceSub, Int.reduceMul, reduceIte] at hrun
  exact ⟨[91] ++ [c] ++ [58] ++ s1 ++ [62] ++ s2 ++ [93], p2, hrun _ (out_one rfl rfl rfl (src_cl l p2) rfl), by (try simp only [List.length_append, List.length_cons, List.length_nil]); omega, by (try simp only [List.length_append, List.length_cons, List.length_nil]); omega, by omega⟩
set_option maxHeartbeats 16000000 in
theorem draw_s15 (l : List UInt8) (hl : l.length ≤ 2000) (k : Nat) (hk : k < 6) (ih : DrawOk l k) (fuel : Int) (z o : List UInt8) (p : Nat) (hf : fuel ≤ ((k + 1 : Nat) : Int)) (h0 : 0 < fuel) (hz : z.length + (k + 1) ≤ 100) (ho : o.length + (k + 1) ≤ 100) (hp : p + cD (k + 1) ≤ 1000000) (v : Int) (hv : EE 13 [srcL l p, N 7] = some (.t [N v, .t [srcL l (p + 1), N 7]])) (e0 : ¬ v = 0) (e1 : ¬ v = 1) (e2 : ¬ v = 2) (e3 : ¬ v = 3) (e4 : ¬ v = 4) : DrawR l (k + 1) 1 fuel z o p := by
  have hcc : cD (k + 1) = 2 * cD k + 2 := rfl
  have hbb : bD (k + 1) = 2 * bD k + 5 := rfl
  have hbk : bD k ≤ 1000 := bD_le k (by omega)
  obtain ⟨f, rfl⟩ : ∃ f : Nat, fuel = (f : Int) := ⟨fuel.toNat, by omega⟩
  have nf : ¬ ((f : Int) ≤ 0) := by omega
  have wa : IntKind.i64.wrap ((f : Int) + (z.length : Int)) = ((f + z.length : Nat) : Int) := by rw [wrap64 (by omega) (by omega)]; omega
  have wb : IntKind.i64.wrap (2 * (o.length : Int)) = ((2 * o.length : Nat) : Int) := by rw [wrap64 (by omega) (by omega)]; omega
  have wc : IntKind.i64.wrap (((f + z.length : Nat) : Int) + ((2 * o.length : Nat) : Int)) = ((f + z.length + 2 * o.length : Nat) : Int) := by rw [wrap64 (by omega) (by omega)]; omega
  have m5 : (((f + z.length + 2 * o.length : Nat) : Int)).tmod 5 = (((f + z.length + 2 * o.length) % 5 : Nat) : Int) := (Int.ofNat_tmod _ 5).symm
  have hX : (f + z.length + 2 * o.length) % 5 < 5 := Nat.mod_lt _ (by decide)
  obtain ⟨c, hname⟩ := take_one_at [118, 119, 120, 121, 122] _ hX
  simp only [List.take_succ_cons] at hname
  have wd : IntKind.i64.wrap ((((f + z.length + 2 * o.length) % 5 : Nat) : Int) + 1) = (((f + z.length + 2 * o.length) % 5 + 1 : Nat) : Int) := by rw [wrap64 (by omega) (by omega)]; omega
  have z5 : (0 : Int) ≤ (((f + z.length + 2 * o.length) % 5 : Nat) : Int) := by omega
  have le5 : (((f + z.length + 2 * o.length) % 5 : Nat) : Int) ≤ (((f + z.length + 2 * o.length) % 5 + 1 : Nat) : Int) := by omega
  have lt5 : (((f + z.length + 2 * o.length) % 5 + 1 : Nat) : Int) ≤ ((5 : Nat) : Int) := by omega
  have w1 : IntKind.i64.wrap ((f : Int) - 1) = (f : Int) - 1 := wrap64 (by omega) (by omega)
  have w2 : IntKind.i64.wrap ((f : Int) - 2) = (f : Int) - 2 := wrap64 (by omega) (by omega)
  have hrun : ∀ y, ((evC II EE (withOpt (opt 43) pf) MX (strip (bodyOf Tryz.f43)) (st0 l p 1 (f : Int) z o)).bind (outK II Tryz.f43.results.toList (.r 0 0 :: [N 1, N (f : Int), S z, S o]))) = some y → EE 43 [srcL l p, N 1, N (f : Int), S z, S o] = some y := fun y h => EE_lend T_draw (by decide) (Nat.le_of_ble_eq_true rfl) (src_cl l p) rfl h
  rw [show opt 43 = [] from rfl] at hrun
  simp only [st0, bodyOf, Tryz.f43, SA] at hrun
  simp only [nf, wa, wb, wc, m5, wd, z5, le5, lt5, hname, w1, w2, TMA, Int.toNat_natCast, Nat.mul_one, RR, IA, PA, RA0, RA1, RA2, RA3, RA4, RA5, RA6, RA7, RA8, RA9, RA10, Nat.reduceAdd, Nat.reduceMul, Nat.reduceEqDiff, Nat.reduceLeDiff, Nat.reduceLT, Int.reduceToNat, Int.reduceLT, Int.reduceLE, Int.reduceEq, Int.reduceNeg, Int.reduceAdd, Int.reduceSub, Int.reduceMul, reduceIte] at hrun
  rw [pick_call (withOpt_nil_lo (by decide)) (by rfl) hv] at hrun
  have k1 := cat ([91]) ([c]) (by (try simp only [List.length_append, List.length_cons, List.length_nil]); omega)
  try simp only [List.cons_append, List.nil_append] at k1
  have k2 := cat ([91] ++ [c]) ([58]) (by (try simp only [List.length_append, List.length_cons, List.length_nil]); omega)
  try simp only [List.cons_append, List.nil_append] at k2
  obtain ⟨s1, p1, hs1, sp1, sl1, pl1⟩ := ih 1 ((f : Int) - 2) z o (p + 1) (by omega) (by omega) (by omega) (by omega) (by omega)
  simp only [e0, e1, e2, e3, e4, nf, wa, wb, wc, m5, wd, z5, le5, lt5, hname, w1, w2, k1, k2, TMA, Int.toNat_natCast, Nat.mul_one, RR, IA, PA, RA0, RA1, RA2, RA3, RA4, RA5, RA6, RA7, RA8, RA9, RA10, Nat.reduceAdd, Nat.reduceMul, Nat.reduceEqDiff, Nat.reduceLeDiff, Nat.reduceLT, Int.reduceToNat, Int.reduceLT, Int.reduceLE, Int.reduceEq, Int.reduceNeg, Int.reduceAdd, Int.reduceSub, Int.reduceMul, reduceIte] at hrun
  rw [draw_call (by rfl) hs1] at hrun
  have k3 := cat ([91] ++ [c] ++ [58]) (s1) (by (try simp only [List.length_append, List.length_cons, List.length_nil]); omega)
  try simp only [List.cons_append, List.nil_append] at k3
  have k4 := cat ([91] ++ [c] ++ [58] ++ s1) ([62]) (by (try simp only [List.length_append, List.length_cons, List.length_nil]); omega)
  try simp only [List.cons_append, List.nil_append] at k4
  obtain ⟨z2, zl2, zh2⟩ := bind_ev z [c] (by omega) (by simp)
  obtain ⟨o2, ol2, oh2⟩ := unbind_ev o [c] (by omega)
  simp only [List.length_cons, List.length_nil] at zl2 ol2
  obtain ⟨s2, p2, hs2, sp2, sl2, pl2⟩ := ih 0 ((f : Int) - 2) z2 o2 p1 (by omega) (by omega) (by omega) (by omega) (by omega)
  simp only [e0, e1, e2, e3, e4, nf, wa, wb, wc, m5, wd, z5, le5, lt5, hname, w1, w2, k1, k2, k3, k4, zh2, oh2, TMA, Int.toNat_natCast, Nat.mul_one, RR, IA, PA, RA0, RA1, RA2, RA3, RA4, RA5, RA6, RA7, RA8, RA9, RA10, Nat.reduceAdd, Nat.reduceMul, Nat.reduceEqDiff, Nat.reduceLeDiff, Nat.reduceLT, Int.reduceToNat, Int.reduceLT, Int.reduceLE, Int.reduceEq, Int.reduceNeg, Int.reduceAdd, Int.reduceSub, Int.reduceMul, reduceIte] at hrun
  rw [draw_call (by rfl) hs2] at hrun
  have k5 := cat ([91] ++ [c] ++ [58] ++ s1 ++ [62]) (s2) (by (try simp only [List.length_append, List.length_cons, List.length_nil]); omega)
  try simp only [List.cons_append, List.nil_append] at k5
  have k6 := cat ([91] ++ [c] ++ [58] ++ s1 ++ [62] ++ s2) ([93]) (by (try simp only [List.length_append, List.length_cons, List.length_nil]); omega)
  try simp only [List.cons_append, List.nil_append] at k6
  simp only [e0, e1, e2, e3, e4, nf, wa, wb, wc, m5, wd, z5, le5, lt5, hname, w1, w2, k1, k2, k3, k4, zh2, oh2, k5, k6, TMA, Int.toNat_natCast, Nat.mul_one, RR, IA, PA, RA0, RA1, RA2, RA3, RA4, RA5, RA6, RA7, RA8, RA9, RA10, Nat.reduceAdd, Nat.reduceMul, Nat.reduceEqDiff, Nat.reduceLeDiff, Nat.reduceLT, Int.reduceToNat, Int.reduceLT, Int.reduceLE, Int.reduceEq, Int.reduceNeg, Int.reduceAdd, Int.reduceSub, Int.reduceMul, reduceIte] at hrun
  exact ⟨[91] ++ [c] ++ [58] ++ s1 ++ [62] ++ s2 ++ [93], p2, hrun _ (out_one rfl rfl rfl (src_cl l p2) rfl), by (try simp only [List.length_append, List.length_cons, List.length_nil]); omega, by (try simp only [List.length_append, List.length_cons, List.length_nil]); omega, by omega⟩
end
end Go.Proofs.YtegbkihgnofkfaaGreatDoor.Ev

/-
Draws: fuel, other depths (written by wip/tools/gen_de.py).
-/
namespace Go.Proofs.YtegbkihgnofkfaaGreatDoor.Ev
section
set_option linter.unusedVariables false
set_option linter.unusedSimpArgs false
open Go Go.RowKit
set_option linter.unusedVariables false
set_option linter.unusedSimpArgs false
set_option maxHeartbeats 16000000 in
theorem draw_s20 (l : List UInt8) (hl : l.length ≤ 2000) (k : Nat) (hk : k < 6) (ih : DrawOk l k) (d : Int) (fuel : Int) (z o : List UInt8) (p : Nat) (hf : fuel ≤ ((k + 1 : Nat) : Int)) (h0 : 0 < fuel) (hz : z.length + (k + 1) ≤ 100) (ho : o.length + (k + 1) ≤ 100) (hp : p + cD (k + 1) ≤ 1000000) (d0 : ¬ d = 0) (d1 : ¬ d = 1) (v : Int) (hv : EE 13 [srcL l p, N 3] = some (.t [N v, .t [srcL l (p + 1), N 3]])) (e : v = 0) : DrawR l (k + 1) d fuel z o p := by
  have hcc : cD (k + 1) = 2 * cD k + 2 := rfl
  have hbb : bD (k + 1) = 2 * bD k + 5 := rfl
  have hbk : bD k ≤ 1000 := bD_le k (by omega)
  obtain ⟨f, rfl⟩ : ∃ f : Nat, fuel = (f : Int) := ⟨fuel.toNat, by omega⟩
  have nf : ¬ ((f : Int) ≤ 0) := by omega
  have wa : IntKind.i64.wrap ((f : Int) + (z.length : Int)) = ((f + z.length : Nat) : Int) := by rw [wrap64 (by omega) (by omega)]; omega
  have wb : IntKind.i64.wrap (2 * (o.length : Int)) = ((2 * o.length : Nat) : Int) := by rw [wrap64 (by omega) (by omega)]; omega
  have wc : IntKind.i64.wrap (((f + z.length : Nat) : Int) + ((2 * o.length : Nat) : Int)) = ((f + z.length + 2 * o.length : Nat) : Int) := by rw [wrap64 (by omega) (by omega)]; omega
  have m5 : (((f + z.length + 2 * o.length : Nat) : Int)).tmod 5 = (((f + z.length + 2 * o.length) % 5 : Nat) : Int) := (Int.ofNat_tmod _ 5).symm
  have hX : (f + z.length + 2 * o.length) % 5 < 5 := Nat.mod_lt _ (by decide)
  obtain ⟨c, hname⟩ := take_one_at [118, 119, 120, 121, 122] _ hX
  simp only [List.take_succ_cons] at hname
  have wd : IntKind.i64.wrap ((((f + z.length + 2 * o.length) % 5 : Nat) : Int) + 1) = (((f + z.length + 2 * o.length) % 5 + 1 : Nat) : Int) := by rw [wrap64 (by omega) (by omega)]; omega
  have z5 : (0 : Int) ≤ (((f + z.length + 2 * o.length) % 5 : Nat) : Int) := by omega
  have le5 : (((f + z.length + 2 * o.length) % 5 : Nat) : Int) ≤ (((f + z.length + 2 * o.length) % 5 + 1 : Nat) : Int) := by omega
  have lt5 : (((f + z.length + 2 * o.length) % 5 + 1 : Nat) : Int) ≤ ((5 : Nat) : Int) := by omega
  have w1 : IntKind.i64.wrap ((f : Int) - 1) = (f : Int) - 1 := wrap64 (by omega) (by omega)
  have w2 : IntKind.i64.wrap ((f : Int) - 2) = (f : Int) - 2 := wrap64 (by omega) (by omega)
  have hrun : ∀ y, ((evC II EE (withOpt (opt 43) pf) MX (strip (bodyOf Tryz.f43)) (st0 l p d (f : Int) z o)).bind (outK II Tryz.f43.results.toList (.r 0 0 :: [N d, N (f : Int), S z, S o]))) = some y → EE 43 [srcL l p, N d, N (f : Int), S z, S o] = some y := fun y h => EE_lend T_draw (by decide) (Nat.le_of_ble_eq_true rfl) (src_cl l p) rfl h
  rw [show opt 43 = [] from rfl] at hrun
  simp only [st0, bodyOf, Tryz.f43, SA] at hrun
  simp only [d0, d1, nf, wa, wb, wc, m5, wd, z5, le5, lt5, hname, w1, w2, TMA, Int.toNat_natCast, Nat.mul_one, RR, IA, PA, RA0, RA1, RA2, RA3, RA4, RA5, RA6, RA7, RA8, RA9, RA10, Nat.reduceAdd, Nat.reduceMul, Nat.reduceEqDiff, Nat.reduceLeDiff, Nat.reduceLT, Int.reduceToNat, Int.reduceLT, Int.reduceLE, Int.reduceEq, Int.reduceNeg, Int.reduceAdd, Int.reduceSub, Int.reduceMul, reduceIte] at hrun
  rw [pick_call (withOpt_nil_lo (by decide)) (by rfl) hv] at hrun
  subst e
  simp only [d0, d1, nf, wa, wb, wc, m5, wd, z5, le5, lt5, hname, w1, w2, TMA, Int.toNat_natCast, Nat.mul_one, RR, IA, PA, RA0, RA1, RA2, RA3, RA4, RA5, RA6, RA7, RA8, RA9, RA10, Nat.reduceAdd, Nat.reduceMul, Nat.reduceEqDiff, Nat.reduceLeDiff, Nat.reduceLT, Int.reduceToNat, Int.reduceLT, Int.reduceLE, Int.reduceEq, Int.reduceNeg, Int.reduceAdd, Int.reduceSub, Int.reduceMul, reduceIte] at hrun
  exact ⟨[98], (p + 1), hrun _ (out_one rfl rfl rfl (src_cl l (p + 1)) rfl), by (try simp only [List.length_append, List.length_cons, List.length_nil]); omega, by (try simp only [List.length_append, List.length_cons, List.length_nil]); omega, by omega⟩
set_option maxHeartbeats 16000000 in
theorem draw_s21 (l : List UInt8) (hl : l.length ≤ 2000) (k : Nat) (hk : k < 6) (ih : DrawOk l k) (d : Int) (fuel : Int) (z o : List UInt8) (p : Nat) (hf : fuel ≤ ((k + 1 : Nat) : Int)) (h0 : 0 < fuel) (hz : z.length + (k + 1) ≤ 100) (ho : o.length + (k + 1) ≤ 100) (hp : p + cD (k + 1) ≤ 1000000) (d0 : ¬ d = 0) (d1 : ¬ d = 1) (v : Int) (hv : EE 13 [srcL l p, N 3] = some (.t [N v, .t [srcL l (p + 1), N 3]])) (e : v = 1) : DrawR l (k + 1) d fuel z o p := by
  have hcc : cD (k + 1) = 2 * cD k + 2 := rfl
  have hbb : bD (k + 1) = 2 * bD k + 5 := rfl
  have hbk : bD k ≤ 1000 := bD_le k (by omega)
  obtain ⟨f, rfl⟩ : ∃ f : Nat, fuel = (f : Int) := ⟨fuel.toNat, by omega⟩
  have nf : ¬ ((f : Int) ≤ 0) := by omega
  have wa : IntKind.i64.wrap ((f : Int) + (z.length : Int)) = ((f + z.length : Nat) : Int) := by rw [wrap64 (by omega) (by omega)]; omega
  have wb : IntKind.i64.wrap (2 * (o.length : Int)) = ((2 * o.length : Nat) : Int) := by rw [wrap64 (by omega) (by omega)]; omega
  have wc : IntKind.i64.wrap (((f + z.length : Nat) : Int) + ((2 * o.length : Nat) : Int)) = ((f + z.length + 2 * o.length : Nat) : Int) := by rw [wrap64 (by omega) (by omega)]; omega
  have m5 : (((f + z.length + 2 * o.length : Nat) : Int)).tmod 5 = (((f + z.length + 2 * o.length) % 5 : Nat) : Int) := (Int.ofNat_tmod _ 5).symm
  have hX : (f + z.length + 2 * o.length) % 5 < 5 := Nat.mod_lt _ (by decide)
  obtain ⟨c, hname⟩ := take_one_at [118, 119, 120, 121, 122] _ hX
  simp only [List.take_succ_cons] at hname
  have wd : IntKind.i64.wrap ((((f + z.length + 2 * o.length) % 5 : Nat) : Int) + 1) = (((f + z.length + 2 * o.length) % 5 + 1 : Nat) : Int) := by rw [wrap64 (by omega) (by omega)]; omega
  have z5 : (0 : Int) ≤ (((f + z.length + 2 * o.length) % 5 : Nat) : Int) := by omega
  have le5 : (((f + z.length + 2 * o.length) % 5 : Nat) : Int) ≤ (((f + z.length + 2 * o.length) % 5 + 1 : Nat) : Int) := by omega
  have lt5 : (((f + z.length + 2 * o.length) % 5 + 1 : Nat) : Int) ≤ ((5 : Nat) : Int) := by omega
  have w1 : IntKind.i64.wrap ((f : Int) - 1) = (f : Int) - 1 := wrap64 (by omega) (by omega)
  have w2 : IntKind.i64.wrap ((f : Int) - 2) = (f : Int) - 2 := wrap64 (by omega) (by omega)
  have hrun : ∀ y, ((evC II EE (withOpt (opt 43) pf) MX (strip (bodyOf Tryz.f43)) (st0 l p d (f : Int) z o)).bind (outK II Tryz.f43.results.toList (.r 0 0 :: [N d, N (f : Int), S z, S o]))) = some y → EE 43 [srcL l p, N d, N (f : Int), S z, S o] = some y := fun y h => EE_lend T_draw (by decide) (Nat.le_of_ble_eq_true rfl) (src_cl l p) rfl h
  rw [show opt 43 = [] from rfl] at hrun
  simp only [st0, bodyOf, Tryz.f43, SA] at hrun
  simp only [d0, d1, nf, wa, wb, wc, m5, wd, z5, le5, lt5, hname, w1, w2, TMA, Int.toNat_natCast, Nat.mul_one, RR, IA, PA, RA0, RA1, RA2, RA3, RA4, RA5, RA6, RA7, RA8, RA9, RA10, Nat.reduceAdd, Nat.reduceMul, Nat.reduceEqDiff, Nat.reduceLeDiff, Nat.reduceLT, Int.reduceToNat, Int.reduceLT, Int.reduceLE, Int.reduceEq, Int.reduceNeg, Int.reduceAdd, Int.reduceSub, Int.reduceMul, reduceIte] at hrun
  rw [pick_call (withOpt_nil_lo (by decide)) (by rfl) hv] at hrun
  subst e
  have k1 := cat ([91]) ([c]) (by (try simp only [List.length_append, List.length_cons, List.length_nil]); omega)
  try simp only [List.cons_append, List.nil_append] at k1
  have k2 := cat ([91] ++ [c]) ([58]) (by (try simp only [List.length_append, List.length_cons, List.length_nil]); omega)
  try simp only [List.cons_append, List.nil_append] at k2
  obtain ⟨s1, p1, hs1, sp1, sl1, pl1⟩ := ih 1 ((f : Int) - 2) z o (p + 1) (by omega) (by omega) (by omega) (by omega) (by omega)
  simp only [d0, d1, nf, wa, wb, wc, m5, wd, z5, le5, lt5, hname, w1, w2, k1, k2, TMA, Int.toNat_natCast, Nat.mul_one, RR, IA, PA, RA0, RA1, RA2, RA3, RA4, RA5, RA6, RA7, RA8, RA9, RA10, Nat.reduceAdd, Nat.reduceMul, Nat.reduceEqDiff, Nat.reduceLeDiff, Nat.reduceLT, Int.reduceToNat, Int.reduceLT, Int.reduceLE, Int.reduceEq, Int.reduceNeg, Int.reduceAdd, Int.reduceSub, Int.reduceMul, reduceIte] at hrun
  rw [draw_call (by rfl) hs1] at hrun
  have k3 := cat ([91] ++ [c] ++ [58]) (s1) (by (try simp only [List.length_append, List.length_cons, List.length_nil]); omega)
  try simp only [List.cons_append, List.nil_append] at k3
  have k4 := cat ([91] ++ [c] ++ [58] ++ s1) ([62]) (by (try simp only [List.length_append, List.length_cons, List.length_nil]); omega)
  try simp only [List.cons_append, List.nil_append] at k4
  obtain ⟨z2, zl2, zh2⟩ := bind_ev z [c] (by omega) (by simp)
  obtain ⟨o2, ol2, oh2⟩ := unbind_ev o [c] (by omega)
  simp only [List.length_cons, List.length_nil] at zl2 ol2
  obtain ⟨s2, p2, hs2, sp2, sl2, pl2⟩ := ih 1 ((f : Int) - 2) z2 o2 p1 (by omega) (by omega) (by omega) (by omega) (by omega)
  simp only [d0, d1, nf, wa, wb, wc, m5, wd, z5, le5, lt5, hname, w1, w2, k1, k2, k3, k4, zh2, oh2, TMA, Int.toNat_natCast, Nat.mul_one, RR, IA, PA, RA0, RA1, RA2, RA3, RA4, RA5, RA6, RA7, RA8, RA9, RA10, Nat.reduceAdd, Nat.reduceMul, Nat.reduceEqDiff, Nat.reduceLeDiff, Nat.reduceLT, Int.reduceToNat, Int.reduceLT, Int.reduceLE, Int.reduceEq, Int.reduceNeg, Int.reduceAdd, Int.reduceSub, Int.reduceMul, reduceIte] at hrun
  rw [draw_call (by rfl) hs2] at hrun
  have k5 := cat ([91] ++ [c] ++ [58] ++ s1 ++ [62]) (s2) (by (try simp only [List.length_append, List.length_cons, List.length_nil]); omega)
  try simp only [List.cons_append, List.nil_append] at k5
  have k6 := cat ([91] ++ [c] ++ [58] ++ s1 ++ [62] ++ s2) ([93]) (by (try simp only [List.length_append, List.length_cons, List.length_nil]); omega)
  try simp only [List.cons_append, List.nil_append] at k6
  simp only [d0, d1, nf, wa, wb, wc, m5, wd, z5, le5, lt5, hname, w1, w2, k1, k2, k3, k4, zh2, oh2, k5, k6, TMA, Int.toNat_natCast, Nat.mul_one, RR, IA, PA, RA0, RA1, RA2, RA3, RA4, RA5, RA6, RA7, RA8, RA9, RA10, Nat.reduceAdd, Nat.reduceMul, Nat.reduceEqDiff, Nat.reduceLeDiff, Nat.reduceLT, Int.reduceToNat, Int.reduceLT, Int.reduceLE, Int.reduceEq, Int.reduceNeg, Int.reduceAdd, Int.reduceSub, Int.reduceMul, reduceIte] at hrun
  exact ⟨[91] ++ [c] ++ [58] ++ s1 ++ [62] ++ s2 ++ [93], p2, hrun _ (out_one rfl rfl rfl (src_cl l p2) rfl), by (try simp only [List.length_append, List.length_cons, List.length_nil]); omega, by (try simp only [List.length_append, List.length_cons, List.length_nil]); omega, by omega⟩
set_option maxHeartbeats 16000000 in
theorem draw_s22 (l : List UInt8) (hl : l.length ≤ 2000) (k : Nat) (hk : k < 6) (ih : DrawOk l k) (d : Int) (fuel : Int) (z o : List UInt8) (p : Nat) (hf : fuel ≤ ((k + 1 : Nat) : Int)) (h0 : 0 < fuel) (hz : z.length + (k + 1) ≤ 100) (ho : o.length + (k + 1) ≤ 100) (hp : p + cD (k + 1) ≤ 1000000) (d0 : ¬ d = 0) (d1 : ¬ d = 1) (v : Int) (hv : EE 13 [srcL l p, N 3] = some (.t [N v, .t [srcL l (p + 1), N 3]])) (e0 : ¬ v = 0) (e1 : ¬ v = 1) : DrawR l (k + 1) d fuel z o p := by
  have hcc : cD (k + 1) = 2 * cD k + 2 := rfl
  have hbb : bD (k + 1) = 2 * bD k + 5 := rfl
  have hbk : bD k ≤ 1000 := bD_le k (by omega)
  obtain ⟨f, rfl⟩ : ∃ f : Nat, fuel = (f : Int) := ⟨fuel.toNat, by omega⟩
  have nf : ¬ ((f : Int) ≤ 0) := by omega
  have wa : IntKind.i64.wrap ((f : Int) + (z.length : Int)) = ((f + z.length : Nat) : Int) := by rw [wrap64 (by omega) (by omega)]; omega
  have wb : IntKind.i64.wrap (2 * (o.length : Int)) = ((2 * o.length : Nat) : Int) := by rw [wrap64 (by omega) (by omega)]; omega
  have wc : IntKind.i64.wrap (((f + z.length : Nat) : Int) + ((2 * o.length : Nat) : Int)) = ((f + z.length + 2 * o.length : Nat) : Int) := by rw [wrap64 (by omega) (by omega)]; omega
  have m5 : (((f + z.length + 2 * o.length : Nat) : Int)).tmod 5 = (((f + z.length + 2 * o.length) % 5 : Nat) : Int) := (Int.ofNat_tmod _ 5).symm
  have hX : (f + z.length + 2 * o.length) % 5 < 5 := Nat.mod_lt _ (by decide)
  obtain ⟨c, hname⟩ := take_one_at [118, 119, 120, 121, 122] _ hX
  simp only [List.take_succ_cons] at hname
  have wd : IntKind.i64.wrap ((((f + z.length + 2 * o.length) % 5 : Nat) : Int) + 1) = (((f + z.length + 2 * o.length) % 5 + 1 : Nat) : Int) := by rw [wrap64 (by omega) (by omega)]; omega
  have z5 : (0 : Int) ≤ (((f + z.length + 2 * o.length) % 5 : Nat) : Int) := by omega
  have le5 : (((f + z.length + 2 * o.length) % 5 : Nat) : Int) ≤ (((f + z.length + 2 * o.length) % 5 + 1 : Nat) : Int) := by omega
  have lt5 : (((f + z.length + 2 * o.length) % 5 + 1 : Nat) : Int) ≤ ((5 : Nat) : Int) := by omega
  have w1 : IntKind.i64.wrap ((f : Int) - 1) = (f : Int) - 1 := wrap64 (by omega) (by omega)
  have w2 : IntKind.i64.wrap ((f : Int) - 2) = (f : Int) - 2 := wrap64 (by omega) (by omega)
  have hrun : ∀ y, ((evC II EE (withOpt (opt 43) pf) MX (strip (bodyOf Tryz.f43)) (st0 l p d (f : Int) z o)).bind (outK II Tryz.f43.results.toList (.r 0 0 :: [N d, N (f : Int), S z, S o]))) = some y → EE 43 [srcL l p, N d, N (f : Int), S z, S o] = some y := fun y h => EE_lend T_draw (by decide) (Nat.le_of_ble_eq_true rfl) (src_cl l p) rfl h
  rw [show opt 43 = [] from rfl] at hrun
  simp only [st0, bodyOf, Tryz.f43, SA] at hrun
  simp only [d0, d1, nf, wa, wb, wc, m5, wd, z5, le5, lt5, hname, w1, w2, TMA, Int.toNat_natCast, Nat.mul_one, RR, IA, PA, RA0, RA1, RA2, RA3, RA4, RA5, RA6, RA7, RA8, RA9, RA10, Nat.reduceAdd, Nat.reduceMul, Nat.reduceEqDiff, Nat.reduceLeDiff, Nat.reduceLT, Int.reduceToNat, Int.reduceLT, Int.reduceLE, Int.reduceEq, Int.reduceNeg, Int.reduceAdd, Int.reduceSub, Int.reduceMul, reduceIte] at hrun
  rw [pick_call (withOpt_nil_lo (by decide)) (by rfl) hv] at hrun
  have k1 := cat ([91]) ([c]) (by (try simp only [List.length_append, List.length_cons, List.length_nil]); omega)
  try simp only [List.cons_append, List.nil_append] at k1
  have k2 := cat ([91] ++ [c]) ([58]) (by (try simp only [List.length_append, List.length_cons, List.length_nil]); omega)
  try simp only [List.cons_append, List.nil_append] at k2
  obtain ⟨s1, p1, hs1, sp1, sl1, pl1⟩ := ih 2 ((f : Int) - 2) z o (p + 1) (by omega) (by omega) (by omega) (by omega) (by omega)
  simp only [d0, d1, e0, e1, nf, wa, wb, wc, m5, wd, z5, le5, lt5, hname, w1, w2, k1, k2, TMA, Int.toNat_natCast, Nat.mul_one, RR, IA, PA, RA0, RA1, RA2, RA3, RA4, RA5, RA6, RA7, RA8, RA9, RA10, Nat.reduceAdd, Nat.reduceMul, Nat.reduceEqDiff, Nat.reduceLeDiff, Nat.reduceLT, Int.reduceToNat, Int.reduceLT, Int.reduceLE, Int.reduceEq, Int.reduceNeg, Int.reduceAdd, Int.reduceSub, Int.reduceMul, reduceIte] at hrun
  rw [draw_call (by rfl) hs1] at hrun
  have k3 := cat ([91] ++ [c] ++ [58]) (s1) (by (try simp only [List.length_append, List.length_cons, List.length_nil]); omega)
  try simp only [List.cons_append, List.nil_append] at k3
  have k4 := cat ([91] ++ [c] ++ [58] ++ s1) ([62]) (by (try simp only [List.length_append, List.length_cons, List.length_nil]); omega)
  try simp only [List.cons_append, List.nil_append] at k4
  obtain ⟨z2, zl2, zh2⟩ := unbind_ev z [c] (by omega)
  obtain ⟨o2, ol2, oh2⟩ := bind_ev o [c] (by omega) (by simp)
  simp only [List.length_cons, List.length_nil] at zl2 ol2
  obtain ⟨s2, p2, hs2, sp2, sl2, pl2⟩ := ih 1 ((f : Int) - 2) z2 o2 p1 (by omega) (by omega) (by omega) (by omega) (by omega)
  simp only [d0, d1, e0, e1, nf, wa, wb, wc, m5, wd, z5, le5, lt5, hname, w1, w2, k1, k2, k3, k4, zh2, oh2, TMA, Int.toNat_natCast, Nat.mul_one, RR, IA, PA, RA0, RA1, RA2, RA3, RA4, RA5, RA6, RA7, RA8, RA9, RA10, Nat.reduceAdd, Nat.reduceMul, Nat.reduceEqDiff, Nat.reduceLeDiff, Nat.reduceLT, Int.reduceToNat, Int.reduceLT, Int.reduceLE, Int.reduceEq, Int.reduceNeg, Int.reduceAdd, Int.reduceSub, Int.reduceMul, reduceIte] at hrun
  rw [draw_call (by rfl) hs2] at hrun
  have k5 := cat ([91] ++ [c] ++ [58] ++ s1 ++ [62]) (s2) (by (try simp only [List.length_append, List.length_cons, List.length_nil]); omega)
  try simp only [List.cons_append, List.nil_append] at k5
  have k6 := cat ([91] ++ [c] ++ [58] ++ s1 ++ [62] ++ s2) ([93]) (by (try simp only [List.length_append, List.length_cons, List.length_nil]); omega)
  try simp only [List.cons_append, List.nil_append] at k6
  simp only [d0, d1, e0, e1, nf, wa, wb, wc, m5, wd, z5, le5, lt5, hname, w1, w2, k1, k2, k3, k4, zh2, oh2, k5, k6, TMA, Int.toNat_natCast, Nat.mul_one, RR, IA, PA, RA0, RA1, RA2, RA3, RA4, RA5, RA6, RA7, RA8, RA9, RA10, Nat.reduceAdd, Nat.reduceMul, Nat.reduceEqDiff, Nat.reduceLeDiff, Nat.reduceLT, Int.reduceToNat, Int.reduceLT, Int.reduceLE, Int.reduceEq, Int.reduceNeg, Int.reduceAdd, Int.reduceSub, Int.reduceMul, reduceIte] at hrun
  exact ⟨[91] ++ [c] ++ [58] ++ s1 ++ [62] ++ s2 ++ [93], p2, hrun _ (out_one rfl rfl rfl (src_cl l p2) rfl), by (try simp only [List.length_append, List.length_cons, List.length_nil]); omega, by (try simp only [List.length_append, List.length_cons, List.length_nil]); omega, by omega⟩
end
end Go.Proofs.YtegbkihgnofkfaaGreatDoor.Ev
