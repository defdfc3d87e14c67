/-
Texts Dh to Di of the work.
-/
import Derived.Test.YtegbkihgnofkfaaGreatDoorZDe
/-
Draws: texts that are mostly terms (written by wip/tools/gen_dh.py).
-/
namespace Go.Proofs.YtegbkihgnofkfaaGreatDoor.Ev
section
set_option linter.unusedVariables false
set_option linter.unusedSimpArgs false
open Go Go.RowKit
set_option linter.unusedVariables false
set_option linter.unusedSimpArgs false
theorem draw_ok (l : List UInt8) (hl : l.length ≤ 2000) : ∀ k, k ≤ 6 → DrawOk l k
  | 0, _ => fun d fuel z o p hf _ hz ho hp => draw_base l hl 0 d fuel z o p hf (by omega) (by omega) hp
  | k + 1, hk => by
    have ih := draw_ok l hl k (by omega)
    intro d fuel z o p hf hm hz ho hp
    by_cases hf0 : fuel ≤ 0
    · exact draw_base l hl (k + 1) d fuel z o p hf0 (by omega) (by omega) hp
    · have h0 : 0 < fuel := by omega
      have hcc : cD (k + 1) = 2 * cD k + 2 := rfl
      by_cases d0 : d = 0
      · subst d0
        obtain ⟨v, v0, v1, hv⟩ := pick_ev l hl p (by omega) 7 (by decide)
        by_cases e0 : v = 0
        · exact draw_s00 l hl k (by omega) ih fuel z o p hf h0 hz ho hp v hv e0
        by_cases e1 : v = 1
        · exact draw_s01 l hl k (by omega) ih fuel z o p hf h0 hz ho hp v hv e1
        by_cases e2 : v = 2
        · exact draw_s02 l hl k (by omega) ih fuel z o p hf h0 hz ho hp v hv e2
        by_cases e3 : v = 3
        · exact draw_s03 l hl k (by omega) ih fuel z o p hf h0 hz ho hp v hv e3
        · exact draw_s04 l hl k (by omega) ih fuel z o p hf h0 hz ho hp v hv e0 e1 e2 e3
      · by_cases d1 : d = 1
        · subst d1
          obtain ⟨v, v0, v1, hv⟩ := pick_ev l hl p (by omega) 7 (by decide)
          by_cases e0 : v = 0
          · exact draw_s10 l hl k (by omega) ih fuel z o p hf h0 hz ho hp v hv e0
          by_cases e1 : v = 1
          · exact draw_s11 l hl k (by omega) ih fuel z o p hf h0 hz ho hp v hv e1
          by_cases e2 : v = 2
          · exact draw_s12 l hl k (by omega) ih fuel z o p hf h0 hz ho hp v hv e2
          by_cases e3 : v = 3
          · exact draw_s13 l hl k (by omega) ih fuel z o p hf h0 hz ho hp v hv e3
          by_cases e4 : v = 4
          · exact draw_s14 l hl k (by omega) ih fuel z o p hf h0 hz ho hp v hv e4
          · exact draw_s15 l hl k (by omega) ih fuel z o p hf h0 hz ho hp v hv e0 e1 e2 e3 e4
        · obtain ⟨v, v0, v1, hv⟩ := pick_ev l hl p (by omega) 3 (by decide)
          by_cases e0 : v = 0
          · exact draw_s20 l hl k (by omega) ih d fuel z o p hf h0 hz ho hp d0 d1 v hv e0
          by_cases e1 : v = 1
          · exact draw_s21 l hl k (by omega) ih d fuel z o p hf h0 hz ho hp d0 d1 v hv e1
          · exact draw_s22 l hl k (by omega) ih d fuel z o p hf h0 hz ho hp d0 d1 v hv e0 e1
theorem T_some : TT 25 = some (Tryz.f25, bodyOf Tryz.f25) := by kernel_rfl
theorem drop_len (s : List UInt8) (n : Nat) : (s.drop n).length ≤ s.length := by rw [List.length_drop]; omega
theorem take_len (s : List UInt8) (n : Nat) : (s.take n).length ≤ s.length := by rw [List.length_take]; omega
theorem cut7_len : ∀ s ∈ cut7L, s.length ≤ 1 := by decide
theorem neu4_len : ∀ s ∈ neu4L, s.length ≤ 20 := by decide
theorem fus4_len : ∀ s ∈ fus4L, s.length ≤ 20 := by decide
set_option maxHeartbeats 16000000 in
theorem some_ev (l : List UInt8) (hl : l.length ≤ 2000) (p : Nat) (hp : p + 1000 ≤ 1000000) : ∃ s p', EE 25 [srcL l p] = some (.t [S s, .t [srcL l p']]) ∧ s.length ≤ 200 ∧ p' ≤ p + 900 := by
  have hrun : ∀ y, ((evC II EE (withOpt (opt 25) pf) MX (strip (bodyOf Tryz.f25)) ⟨fun t => (.r 0 0 :: []).getD t (.v undef), upd (fun _ => none) 0 (some (.ob 48 (srcC l p))), 1⟩).bind (outK II Tryz.f25.results.toList (.r 0 0 :: []))) = some y → EE 25 [srcL l p] = some y := fun y h => EE_lend T_some (by decide) (Nat.le_of_ble_eq_true rfl) (src_cl l p) rfl h
  rw [show opt 25 = [] from rfl] at hrun
  simp only [bodyOf, Tryz.f25, SA] at hrun
  obtain ⟨a, a0, a1, ha⟩ := pick_ev l hl p (by omega) 16 (by decide)
  obtain ⟨a, rfl⟩ : ∃ q : Nat, a = (q : Int) := ⟨a.toNat, by omega⟩
  obtain ⟨kn, hkm, hkn⟩ := known_ev a (by have := a1 (by decide); omega)
  obtain ⟨kl0, kl1⟩ := known_len kn hkm
  simp only [TMA, Int.toNat_natCast, Nat.mul_one, RR, IA, PA, RA0, RA1, RA2, RA3, RA4, RA5, RA6, RA7, RA8, RA9, RA10, Nat.reduceAdd, Nat.reduceMul, Nat.reduceEqDiff, Nat.reduceLeDiff, Nat.reduceLT, Int.reduceToNat, Int.reduceLT, Int.reduceLE, Int.reduceEq, Int.reduceNeg, Int.reduceAdd, Int.reduceSub, Int.reduceMul, reduceIte] at hrun
  rw [pick_call (withOpt_nil_lo (by decide)) (by rfl) ha] at hrun
  obtain ⟨b, b0, b1, hb⟩ := pick_ev l hl (p + 1) (by omega) 3 (by decide)
  simp only [hkn, TMA, Int.toNat_natCast, Nat.mul_one, RR, IA, PA, RA0, RA1, RA2, RA3, RA4, RA5, RA6, RA7, RA8, RA9, RA10, Nat.reduceAdd, Nat.reduceMul, Nat.reduceEqDiff, Nat.reduceLeDiff, Nat.reduceLT, Int.reduceToNat, Int.reduceLT, Int.reduceLE, Int.reduceEq, Int.reduceNeg, Int.reduceAdd, Int.reduceSub, Int.reduceMul, reduceIte] at hrun
  rw [pick_call (withOpt_nil_lo (by decide)) (by rfl) hb] at hrun
  by_cases hb0 : 0 < b
  · obtain ⟨c, c0, c1, hc⟩ := pick_ev l hl (p + 1 + 1) (by omega) 3 (by decide)
    simp only [hb0, hkn, TMA, Int.toNat_natCast, Nat.mul_one, RR, IA, PA, RA0, RA1, RA2, RA3, RA4, RA5, RA6, RA7, RA8, RA9, RA10, Nat.reduceAdd, Nat.reduceMul, Nat.reduceEqDiff, Nat.reduceLeDiff, Nat.reduceLT, Int.reduceToNat, Int.reduceLT, Int.reduceLE, Int.reduceEq, Int.reduceNeg, Int.reduceAdd, Int.reduceSub, Int.reduceMul, reduceIte] at hrun
    rw [pick_call (withOpt_nil_lo (by decide)) (by rfl) hc] at hrun
    obtain ⟨d, d0, d1, hd⟩ := pick_ev l hl (p + 1 + 1 + 1) (by omega) 5 (by decide)
    simp only [hb0, hkn, TMA, Int.toNat_natCast, Nat.mul_one, RR, IA, PA, RA0, RA1, RA2, RA3, RA4, RA5, RA6, RA7, RA8, RA9, RA10, Nat.reduceAdd, Nat.reduceMul, Nat.reduceEqDiff, Nat.reduceLeDiff, Nat.reduceLT, Int.reduceToNat, Int.reduceLT, Int.reduceLE, Int.reduceEq, Int.reduceNeg, Int.reduceAdd, Int.reduceSub, Int.reduceMul, reduceIte] at hrun
    rw [pick_call (withOpt_nil_lo (by decide)) (by rfl) hd] at hrun
    have hwd : IntKind.i64.wrap (2 + d) = 2 + d := wrap64 (by omega) (by omega)
    have hc6 : cD 6 = 254 := rfl
    have hb6 : bD 6 = 379 := rfl
    obtain ⟨s, p', hs, sl0, sl1, hpp⟩ := draw_ok l hl 6 (by decide) c (2 + d) [] [] (p + 1 + 1 + 1 + 1) (by have := d1 (by decide); omega) (by omega) (by decide) (by decide) (by rw [hc6]; omega)
    rw [hc6] at hpp
    rw [hb6] at sl1
    simp only [hb0, hkn, hwd, TMA, Int.toNat_natCast, Nat.mul_one, RR, IA, PA, RA0, RA1, RA2, RA3, RA4, RA5, RA6, RA7, RA8, RA9, RA10, Nat.reduceAdd, Nat.reduceMul, Nat.reduceEqDiff, Nat.reduceLeDiff, Nat.reduceLT, Int.reduceToNat, Int.reduceLT, Int.reduceLE, Int.reduceEq, Int.reduceNeg, Int.reduceAdd, Int.reduceSub, Int.reduceMul, reduceIte] at hrun
    rw [draw_call (by rfl) hs] at hrun
    by_cases h80 : (80 : Int) < (s.length : Int)
    · simp only [h80, TMA, Int.toNat_natCast, Nat.mul_one, RR, IA, PA, RA0, RA1, RA2, RA3, RA4, RA5, RA6, RA7, RA8, RA9, RA10, Nat.reduceAdd, Nat.reduceMul, Nat.reduceEqDiff, Nat.reduceLeDiff, Nat.reduceLT, Int.reduceToNat, Int.reduceLT, Int.reduceLE, Int.reduceEq, Int.reduceNeg, Int.reduceAdd, Int.reduceSub, Int.reduceMul, reduceIte] at hrun
      obtain ⟨sa, hsa⟩ : ∃ sa : List UInt8, sa = [83, 97] := ⟨_, rfl⟩
      have hsl : sa.length = 2 := by rw [hsa]; rfl
      rw [← hsa] at hrun
      obtain ⟨u, u0, u1, hu⟩ := pick_ev l hl p' (by omega) 18 (by decide)
      try simp only [h80, TMA, Int.toNat_natCast, Nat.mul_one, RR, IA, PA, RA0, RA1, RA2, RA3, RA4, RA5, RA6, RA7, RA8, RA9, RA10, Nat.reduceAdd, Nat.reduceMul, Nat.reduceEqDiff, Nat.reduceLeDiff, Nat.reduceLT, Int.reduceToNat, Int.reduceLT, Int.reduceLE, Int.reduceEq, Int.reduceNeg, Int.reduceAdd, Int.reduceSub, Int.reduceMul, reduceIte] at hrun
      rw [pick_call (withOpt_nil_lo (by decide)) (by rfl) hu] at hrun
      by_cases hu0 : 0 < u
      · simp only [hu0, h80, TMA, Int.toNat_natCast, Nat.mul_one, RR, IA, PA, RA0, RA1, RA2, RA3, RA4, RA5, RA6, RA7, RA8, RA9, RA10, Nat.reduceAdd, Nat.reduceMul, Nat.reduceEqDiff, Nat.reduceLeDiff, Nat.reduceLT, Int.reduceToNat, Int.reduceLT, Int.reduceLE, Int.reduceEq, Int.reduceNeg, Int.reduceAdd, Int.reduceSub, Int.reduceMul, reduceIte] at hrun
        exact ⟨sa, p' + 1, hrun _ (out_one rfl rfl rfl (src_cl l (p' + 1)) rfl), by omega, by omega⟩
      · obtain ⟨k, k0, k1, hk⟩ := pick_ev l hl (p' + 1) (by omega) (List.length sa : Int) (by omega)
        have hkl := k1 (by omega)
        obtain ⟨k, rfl⟩ : ∃ q : Nat, k = (q : Int) := ⟨k.toNat, by omega⟩
        simp only [hu0, h80, TMA, Int.toNat_natCast, Nat.mul_one, RR, IA, PA, RA0, RA1, RA2, RA3, RA4, RA5, RA6, RA7, RA8, RA9, RA10, Nat.reduceAdd, Nat.reduceMul, Nat.reduceEqDiff, Nat.reduceLeDiff, Nat.reduceLT, Int.reduceToNat, Int.reduceLT, Int.reduceLE, Int.reduceEq, Int.reduceNeg, Int.reduceAdd, Int.reduceSub, Int.reduceMul, reduceIte] at hrun
        rw [pick_call (withOpt_nil_lo (by decide)) (by rfl) hk] at hrun
        obtain ⟨x, hm, hx⟩ := of_ev l hl (p' + 1 + 1) (by omega) true cut7L (by decide) (by decide)
        have hxl := cut7_len x hm
        have hkle : (k : Int) ≤ (List.length sa : Int) := by omega
        simp only [cut7, k0, hkle, h80, TMA, Int.toNat_natCast, Nat.mul_one, RR, IA, PA, RA0, RA1, RA2, RA3, RA4, RA5, RA6, RA7, RA8, RA9, RA10, Nat.reduceAdd, Nat.reduceMul, Nat.reduceEqDiff, Nat.reduceLeDiff, Nat.reduceLT, Int.reduceToNat, Int.reduceLT, Int.reduceLE, Int.reduceEq, Int.reduceNeg, Int.reduceAdd, Int.reduceSub, Int.reduceMul, reduceIte] at hrun
        rw [of_call (L := cut7L) (n := 7) rfl (by rfl) hx] at hrun
        obtain ⟨w, w0, w1, hw⟩ := pick_ev l hl (p' + 1 + 1 + 1) (by omega) 2 (by decide)
        have c1 := cat (List.take k sa) x (by have := take_len sa k; omega)
        simp only [c1, k0, hkle, h80, TMA, Int.toNat_natCast, Nat.mul_one, RR, IA, PA, RA0, RA1, RA2, RA3, RA4, RA5, RA6, RA7, RA8, RA9, RA10, Nat.reduceAdd, Nat.reduceMul, Nat.reduceEqDiff, Nat.reduceLeDiff, Nat.reduceLT, Int.reduceToNat, Int.reduceLT, Int.reduceLE, Int.reduceEq, Int.reduceNeg, Int.reduceAdd, Int.reduceSub, Int.reduceMul, reduceIte] at hrun
        rw [pick_call (withOpt_nil_lo (by decide)) (by rfl) hw] at hrun
        obtain ⟨w, rfl⟩ : ∃ q : Nat, w = (q : Int) := ⟨w.toNat, by omega⟩
        have hww : IntKind.i64.wrap ((k : Int) + (w : Int)) = ((k + w : Nat) : Int) := by rw [wrap64 (by omega) (by omega)]; omega
        have hz : (0 : Int) ≤ ((k + w : Nat) : Int) := by omega
        have hkw : ((k + w : Nat) : Int) ≤ (List.length sa : Int) := by omega
        have c2 := cat (List.take k sa ++ x) (List.drop (k + w) sa) (by
          have := take_len sa k
          have := drop_len sa (k + w)
          simp only [List.length_append]
          omega)
        simp only [c1, c2, hww, hz, hkw, k0, hkle, h80, TMA, Int.toNat_natCast, Nat.mul_one, RR, IA, PA, RA0, RA1, RA2, RA3, RA4, RA5, RA6, RA7, RA8, RA9, RA10, Nat.reduceAdd, Nat.reduceMul, Nat.reduceEqDiff, Nat.reduceLeDiff, Nat.reduceLT, Int.reduceToNat, Int.reduceLT, Int.reduceLE, Int.reduceEq, Int.reduceNeg, Int.reduceAdd, Int.reduceSub, Int.reduceMul, reduceIte] at hrun
        exact ⟨_, p' + 1 + 1 + 1 + 1, hrun _ (out_one rfl rfl rfl (src_cl l (p' + 1 + 1 + 1 + 1)) rfl), by
          have := take_len sa k
          have := drop_len sa (k + w)
          simp only [List.length_append]
          omega, by omega⟩
    · have s80 : s.length ≤ 80 := by omega
      simp only [h80, TMA, Int.toNat_natCast, Nat.mul_one, RR, IA, PA, RA0, RA1, RA2, RA3, RA4, RA5, RA6, RA7, RA8, RA9, RA10, Nat.reduceAdd, Nat.reduceMul, Nat.reduceEqDiff, Nat.reduceLeDiff, Nat.reduceLT, Int.reduceToNat, Int.reduceLT, Int.reduceLE, Int.reduceEq, Int.reduceNeg, Int.reduceAdd, Int.reduceSub, Int.reduceMul, reduceIte] at hrun
      obtain ⟨u, u0, u1, hu⟩ := pick_ev l hl p' (by omega) 18 (by decide)
      try simp only [h80, TMA, Int.toNat_natCast, Nat.mul_one, RR, IA, PA, RA0, RA1, RA2, RA3, RA4, RA5, RA6, RA7, RA8, RA9, RA10, Nat.reduceAdd, Nat.reduceMul, Nat.reduceEqDiff, Nat.reduceLeDiff, Nat.reduceLT, Int.reduceToNat, Int.reduceLT, Int.reduceLE, Int.reduceEq, Int.reduceNeg, Int.reduceAdd, Int.reduceSub, Int.reduceMul, reduceIte] at hrun
      rw [pick_call (withOpt_nil_lo (by decide)) (by rfl) hu] at hrun
      by_cases hu0 : 0 < u
      · simp only [hu0, h80, TMA, Int.toNat_natCast, Nat.mul_one, RR, IA, PA, RA0, RA1, RA2, RA3, RA4, RA5, RA6, RA7, RA8, RA9, RA10, Nat.reduceAdd, Nat.reduceMul, Nat.reduceEqDiff, Nat.reduceLeDiff, Nat.reduceLT, Int.reduceToNat, Int.reduceLT, Int.reduceLE, Int.reduceEq, Int.reduceNeg, Int.reduceAdd, Int.reduceSub, Int.reduceMul, reduceIte] at hrun
        exact ⟨s, p' + 1, hrun _ (out_one rfl rfl rfl (src_cl l (p' + 1)) rfl), by omega, by omega⟩
      · obtain ⟨k, k0, k1, hk⟩ := pick_ev l hl (p' + 1) (by omega) (List.length s : Int) (by omega)
        have hkl := k1 (by omega)
        obtain ⟨k, rfl⟩ : ∃ q : Nat, k = (q : Int) := ⟨k.toNat, by omega⟩
        simp only [hu0, h80, TMA, Int.toNat_natCast, Nat.mul_one, RR, IA, PA, RA0, RA1, RA2, RA3, RA4, RA5, RA6, RA7, RA8, RA9, RA10, Nat.reduceAdd, Nat.reduceMul, Nat.reduceEqDiff, Nat.reduceLeDiff, Nat.reduceLT, Int.reduceToNat, Int.reduceLT, Int.reduceLE, Int.reduceEq, Int.reduceNeg, Int.reduceAdd, Int.reduceSub, Int.reduceMul, reduceIte] at hrun
        rw [pick_call (withOpt_nil_lo (by decide)) (by rfl) hk] at hrun
        obtain ⟨x, hm, hx⟩ := of_ev l hl (p' + 1 + 1) (by omega) true cut7L (by decide) (by decide)
        have hxl := cut7_len x hm
        have hkle : (k : Int) ≤ (List.length s : Int) := by omega
        simp only [cut7, k0, hkle, h80, TMA, Int.toNat_natCast, Nat.mul_one, RR, IA, PA, RA0, RA1, RA2, RA3, RA4, RA5, RA6, RA7, RA8, RA9, RA10, Nat.reduceAdd, Nat.reduceMul, Nat.reduceEqDiff, Nat.reduceLeDiff, Nat.reduceLT, Int.reduceToNat, Int.reduceLT, Int.reduceLE, Int.reduceEq, Int.reduceNeg, Int.reduceAdd, Int.reduceSub, Int.reduceMul, reduceIte] at hrun
        rw [of_call (L := cut7L) (n := 7) rfl (by rfl) hx] at hrun
        obtain ⟨w, w0, w1, hw⟩ := pick_ev l hl (p' + 1 + 1 + 1) (by omega) 2 (by decide)
        have c1 := cat (List.take k s) x (by have := take_len s k; omega)
        simp only [c1, k0, hkle, h80, TMA, Int.toNat_natCast, Nat.mul_one, RR, IA, PA, RA0, RA1, RA2, RA3, RA4, RA5, RA6, RA7, RA8, RA9, RA10, Nat.reduceAdd, Nat.reduceMul, Nat.reduceEqDiff, Nat.reduceLeDiff, Nat.reduceLT, Int.reduceToNat, Int.reduceLT, Int.reduceLE, Int.reduceEq, Int.reduceNeg, Int.reduceAdd, Int.reduceSub, Int.reduceMul, reduceIte] at hrun
        rw [pick_call (withOpt_nil_lo (by decide)) (by rfl) hw] at hrun
        obtain ⟨w, rfl⟩ : ∃ q : Nat, w = (q : Int) := ⟨w.toNat, by omega⟩
        have hww : IntKind.i64.wrap ((k : Int) + (w : Int)) = ((k + w : Nat) : Int) := by rw [wrap64 (by omega) (by omega)]; omega
        have hz : (0 : Int) ≤ ((k + w : Nat) : Int) := by omega
        have hkw : ((k + w : Nat) : Int) ≤ (List.length s : Int) := by omega
        have c2 := cat (List.take k s ++ x) (List.drop (k + w) s) (by
          have := take_len s k
          have := drop_len s (k + w)
          simp only [List.length_append]
          omega)
        simp only [c1, c2, hww, hz, hkw, k0, hkle, h80, TMA, Int.toNat_natCast, Nat.mul_one, RR, IA, PA, RA0, RA1, RA2, RA3, RA4, RA5, RA6, RA7, RA8, RA9, RA10, Nat.reduceAdd, Nat.reduceMul, Nat.reduceEqDiff, Nat.reduceLeDiff, Nat.reduceLT, Int.reduceToNat, Int.reduceLT, Int.reduceLE, Int.reduceEq, Int.reduceNeg, Int.reduceAdd, Int.reduceSub, Int.reduceMul, reduceIte] at hrun
        exact ⟨_, p' + 1 + 1 + 1 + 1, hrun _ (out_one rfl rfl rfl (src_cl l (p' + 1 + 1 + 1 + 1)) rfl), by
          have := take_len s k
          have := drop_len s (k + w)
          simp only [List.length_append]
          omega, by omega⟩
  · simp only [hb0, hkn, TMA, Int.toNat_natCast, Nat.mul_one, RR, IA, PA, RA0, RA1, RA2, RA3, RA4, RA5, RA6, RA7, RA8, RA9, RA10, Nat.reduceAdd, Nat.reduceMul, Nat.reduceEqDiff, Nat.reduceLeDiff, Nat.reduceLT, Int.reduceToNat, Int.reduceLT, Int.reduceLE, Int.reduceEq, Int.reduceNeg, Int.reduceAdd, Int.reduceSub, Int.reduceMul, reduceIte] at hrun
    have h80 : ¬ ((80 : Int) < (kn.length : Int)) := by omega
    simp only [h80, TMA, Int.toNat_natCast, Nat.mul_one, RR, IA, PA, RA0, RA1, RA2, RA3, RA4, RA5, RA6, RA7, RA8, RA9, RA10, Nat.reduceAdd, Nat.reduceMul, Nat.reduceEqDiff, Nat.reduceLeDiff, Nat.reduceLT, Int.reduceToNat, Int.reduceLT, Int.reduceLE, Int.reduceEq, Int.reduceNeg, Int.reduceAdd, Int.reduceSub, Int.reduceMul, reduceIte] at hrun
    obtain ⟨u, u0, u1, hu⟩ := pick_ev l hl (p + 1 + 1) (by omega) 18 (by decide)
    try simp only [h80, TMA, Int.toNat_natCast, Nat.mul_one, RR, IA, PA, RA0, RA1, RA2, RA3, RA4, RA5, RA6, RA7, RA8, RA9, RA10, Nat.reduceAdd, Nat.reduceMul, Nat.reduceEqDiff, Nat.reduceLeDiff, Nat.reduceLT, Int.reduceToNat, Int.reduceLT, Int.reduceLE, Int.reduceEq, Int.reduceNeg, Int.reduceAdd, Int.reduceSub, Int.reduceMul, reduceIte] at hrun
    rw [pick_call (withOpt_nil_lo (by decide)) (by rfl) hu] at hrun
    by_cases hu0 : 0 < u
    · simp only [hu0, h80, TMA, Int.toNat_natCast, Nat.mul_one, RR, IA, PA, RA0, RA1, RA2, RA3, RA4, RA5, RA6, RA7, RA8, RA9, RA10, Nat.reduceAdd, Nat.reduceMul, Nat.reduceEqDiff, Nat.reduceLeDiff, Nat.reduceLT, Int.reduceToNat, Int.reduceLT, Int.reduceLE, Int.reduceEq, Int.reduceNeg, Int.reduceAdd, Int.reduceSub, Int.reduceMul, reduceIte] at hrun
      exact ⟨kn, (p + 1 + 1) + 1, hrun _ (out_one rfl rfl rfl (src_cl l ((p + 1 + 1) + 1)) rfl), by omega, by omega⟩
    · obtain ⟨k, k0, k1, hk⟩ := pick_ev l hl ((p + 1 + 1) + 1) (by omega) (List.length kn : Int) (by omega)
      have hkl := k1 (by omega)
      obtain ⟨k, rfl⟩ : ∃ q : Nat, k = (q : Int) := ⟨k.toNat, by omega⟩
      simp only [hu0, h80, TMA, Int.toNat_natCast, Nat.mul_one, RR, IA, PA, RA0, RA1, RA2, RA3, RA4, RA5, RA6, RA7, RA8, RA9, RA10, Nat.reduceAdd, Nat.reduceMul, Nat.reduceEqDiff, Nat.reduceLeDiff, Nat.reduceLT, Int.reduceToNat, Int.reduceLT, Int.reduceLE, Int.reduceEq, Int.reduceNeg, Int.reduceAdd, Int.reduceSub, Int.reduceMul, reduceIte] at hrun
      rw [pick_call (withOpt_nil_lo (by decide)) (by rfl) hk] at hrun
      obtain ⟨x, hm, hx⟩ := of_ev l hl ((p + 1 + 1) + 1 + 1) (by omega) true cut7L (by decide) (by decide)
      have hxl := cut7_len x hm
      have hkle : (k : Int) ≤ (List.length kn : Int) := by omega
      simp only [cut7, k0, hkle, h80, TMA, Int.toNat_natCast, Nat.mul_one, RR, IA, PA, RA0, RA1, RA2, RA3, RA4, RA5, RA6, RA7, RA8, RA9, RA10, Nat.reduceAdd, Nat.reduceMul, Nat.reduceEqDiff, Nat.reduceLeDiff, Nat.reduceLT, Int.reduceToNat, Int.reduceLT, Int.reduceLE, Int.reduceEq, Int.reduceNeg, Int.reduceAdd, Int.reduceSub, Int.reduceMul, reduceIte] at hrun
      rw [of_call (L := cut7L) (n := 7) rfl (by rfl) hx] at hrun
      obtain ⟨w, w0, w1, hw⟩ := pick_ev l hl ((p + 1 + 1) + 1 + 1 + 1) (by omega) 2 (by decide)
      have c1 := cat (List.take k kn) x (by have := take_len kn k; omega)
      simp only [c1, k0, hkle, h80, TMA, Int.toNat_natCast, Nat.mul_one, RR, IA, PA, RA0, RA1, RA2, RA3, RA4, RA5, RA6, RA7, RA8, RA9, RA10, Nat.reduceAdd, Nat.reduceMul, Nat.reduceEqDiff, Nat.reduceLeDiff, Nat.reduceLT, Int.reduceToNat, Int.reduceLT, Int.reduceLE, Int.reduceEq, Int.reduceNeg, Int.reduceAdd, Int.reduceSub, Int.reduceMul, reduceIte] at hrun
      rw [pick_call (withOpt_nil_lo (by decide)) (by rfl) hw] at hrun
      obtain ⟨w, rfl⟩ : ∃ q : Nat, w = (q : Int) := ⟨w.toNat, by omega⟩
      have hww : IntKind.i64.wrap ((k : Int) + (w : Int)) = ((k + w : Nat) : Int) := by rw [wrap64 (by omega) (by omega)]; omega
      have hz : (0 : Int) ≤ ((k + w : Nat) : Int) := by omega
      have hkw : ((k + w : Nat) : Int) ≤ (List.length kn : Int) := by omega
      have c2 := cat (List.take k kn ++ x) (List.drop (k + w) kn) (by
        have := take_len kn k
        have := drop_len kn (k + w)
        simp only [List.length_append]
        omega)
      simp only [c1, c2, hww, hz, hkw, k0, hkle, h80, TMA, Int.toNat_natCast, Nat.mul_one, RR, IA, PA, RA0, RA1, RA2, RA3, RA4, RA5, RA6, RA7, RA8, RA9, RA10, Nat.reduceAdd, Nat.reduceMul, Nat.reduceEqDiff, Nat.reduceLeDiff, Nat.reduceLT, Int.reduceToNat, Int.reduceLT, Int.reduceLE, Int.reduceEq, Int.reduceNeg, Int.reduceAdd, Int.reduceSub, Int.reduceMul, reduceIte] at hrun
      exact ⟨_, (p + 1 + 1) + 1 + 1 + 1 + 1, hrun _ (out_one rfl rfl rfl (src_cl l ((p + 1 + 1) + 1 + 1 + 1 + 1)) rfl), by
        have := take_len kn k
        have := drop_len kn (k + w)
        simp only [List.length_append]
        omega, by omega⟩
end
end Go.Proofs.YtegbkihgnofkfaaGreatDoor.Ev

/-
Draws: texts that can be simplified; what is drawn of bytes (written by wip/tools/gen_di.py).
-/
namespace Go.Proofs.YtegbkihgnofkfaaGreatDoor.Ev
section
set_option linter.unusedVariables false
set_option linter.unusedSimpArgs false
open Go Go.RowKit
set_option linter.unusedVariables false
set_option linter.unusedSimpArgs false
theorem some_call {σ : Sto} {l : List UInt8} {p p' id : Nat} {s : List UInt8} (hσ : σ id = some (.ob 48 (srcC l p))) (h : EE 25 [srcL l p] = some (.t [S s, .t [srcL l p']])) (key : Nat) :
    callOp EE (withOpt [] pf) σ key 25 [.r id 0] = some (S s, upd σ id (some (.ob 48 (srcC l p')))) :=
  call_ob_v (withOpt_nil_lo (by decide)) hσ (src_cl l p) rfl h (src_cl l p') rfl (show 1 ≤ 4 by decide)
theorem bytes_cl (l : List UInt8) : closedL [bytesV l] = true := by
  simp only [bytesV_eq, closedL, closed, cbs_closed, Bool.and_self]
theorem take2000 (l : List UInt8) : (l.take 2000).length ≤ 2000 := by rw [List.length_take]; omega
end
end Go.Proofs.YtegbkihgnofkfaaGreatDoor.Ev
