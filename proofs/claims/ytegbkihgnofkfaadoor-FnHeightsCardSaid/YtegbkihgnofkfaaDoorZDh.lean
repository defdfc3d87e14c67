/-
Texts Dh to Dj of the work.
-/
import Derived.Test.YtegbkihgnofkfaaDoorZDe
import Derived.Test.YtegbkihgnofkfaaDoorZTm
import Derived.Test.YtegbkihgnofkfaaDoorZE5
/-
Draws: texts that are mostly terms (written by wip/tools/gen_dh.py).
-/
namespace Go.Proofs.YtegbkihgnofkfaaDoor.Ev
section
set_option linter.unusedVariables false
set_option linter.unusedSimpArgs false
open Go Go.RowKit
set_option linter.unusedVariables false
set_option linter.unusedSimpArgs false
theorem draw_ok (l : List UInt8) (hl : l.length ≤ 2000) : ∀ k, k ≤ 6 → DrawOk l k
  | 0, _ => fun d fuel z o p hf _ hz ho hp => draw_base l hl 0 d fuel z o p hf (by omega) (by omega) hp
  | k + 1, hk => by
    have ih := draw_ok l hl k (by omega)
    intro d fuel z o p hf hm hz ho hp
    by_cases hf0 : fuel ≤ 0
    · exact draw_base l hl (k + 1) d fuel z o p hf0 (by omega) (by omega) hp
    · have h0 : 0 < fuel := by omega
      have hcc : cD (k + 1) = 2 * cD k + 2 := rfl
      by_cases d0 : d = 0
      · subst d0
        obtain ⟨v, v0, v1, hv⟩ := pick_ev l hl p (by omega) 7 (by decide)
        by_cases e0 : v = 0
        · exact draw_s00 l hl k (by omega) ih fuel z o p hf h0 hz ho hp v hv e0
        by_cases e1 : v = 1
        · exact draw_s01 l hl k (by omega) ih fuel z o p hf h0 hz ho hp v hv e1
        by_cases e2 : v = 2
        · exact draw_s02 l hl k (by omega) ih fuel z o p hf h0 hz ho hp v hv e2
        by_cases e3 : v = 3
        · exact draw_s03 l hl k (by omega) ih fuel z o p hf h0 hz ho hp v hv e3
        · exact draw_s04 l hl k (by omega) ih fuel z o p hf h0 hz ho hp v hv e0 e1 e2 e3
      · by_cases d1 : d = 1
        · subst d1
          obtain ⟨v, v0, v1, hv⟩ := pick_ev l hl p (by omega) 7 (by decide)
          by_cases e0 : v = 0
          · exact draw_s10 l hl k (by omega) ih fuel z o p hf h0 hz ho hp v hv e0
          by_cases e1 : v = 1
          · exact draw_s11 l hl k (by omega) ih fuel z o p hf h0 hz ho hp v hv e1
          by_cases e2 : v = 2
          · exact draw_s12 l hl k (by omega) ih fuel z o p hf h0 hz ho hp v hv e2
          by_cases e3 : v = 3
          · exact draw_s13 l hl k (by omega) ih fuel z o p hf h0 hz ho hp v hv e3
          by_cases e4 : v = 4
          · exact draw_s14 l hl k (by omega) ih fuel z o p hf h0 hz ho hp v hv e4
          · exact draw_s15 l hl k (by omega) ih fuel z o p hf h0 hz ho hp v hv e0 e1 e2 e3 e4
        · obtain ⟨v, v0, v1, hv⟩ := pick_ev l hl p (by omega) 3 (by decide)
          by_cases e0 : v = 0
          · exact draw_s20 l hl k (by omega) ih d fuel z o p hf h0 hz ho hp d0 d1 v hv e0
          by_cases e1 : v = 1
          · exact draw_s21 l hl k (by omega) ih d fuel z o p hf h0 hz ho hp d0 d1 v hv e1
          · exact draw_s22 l hl k (by omega) ih d fuel z o p hf h0 hz ho hp d0 d1 v hv e0 e1
theorem T_some : TT 44 = some (Tryd.f44, bodyOf Tryd.f44) := by kernel_rfl
theorem T_some10 : TT 68 = some (Tryd.f68, bodyOf Tryd.f68) := by kernel_rfl
theorem drop_len (s : List UInt8) (n : Nat) : (s.drop n).length ≤ s.length := by rw [List.length_drop]; omega
theorem take_len (s : List UInt8) (n : Nat) : (s.take n).length ≤ s.length := by rw [List.length_take]; omega
theorem cut7_len : ∀ s ∈ cut7L, s.length ≤ 1 := by decide
theorem neu4_len : ∀ s ∈ neu4L, s.length ≤ 20 := by decide
theorem fus4_len : ∀ s ∈ fus4L, s.length ≤ 20 := by decide
set_option maxHeartbeats 16000000 in
theorem some_ev (l : List UInt8) (hl : l.length ≤ 2000) (p : Nat) (hp : p + 1000 ≤ 1000000) : ∃ s p', EE 44 [srcL l p] = some (.t [S s, .t [srcL l p']]) ∧ s.length ≤ 200 ∧ p' ≤ p + 900 := by
  have hrun : ∀ y, ((evC II EE (withOpt (opt 44) pf) MX (strip (bodyOf Tryd.f44)) ⟨fun t => (.r 0 0 :: []).getD t (.v undef), upd (fun _ => none) 0 (some (.ob 77 (srcC l p))), 1⟩).bind (outK II Tryd.f44.results.toList (.r 0 0 :: []))) = some y → EE 44 [srcL l p] = some y := fun y h => EE_lend T_some (by decide) (Nat.le_of_ble_eq_true rfl) (src_cl l p) rfl h
  rw [show opt 44 = [] from rfl] at hrun
  simp only [bodyOf, Tryd.f44, SA] at hrun
  obtain ⟨a, a0, a1, ha⟩ := pick_ev l hl p (by omega) 16 (by decide)
  obtain ⟨a, rfl⟩ : ∃ q : Nat, a = (q : Int) := ⟨a.toNat, by omega⟩
  obtain ⟨kn, hkm, hkn⟩ := known_ev a (by have := a1 (by decide); omega)
  obtain ⟨kl0, kl1⟩ := known_len kn hkm
  simp only [TMA, Int.toNat_natCast, Nat.mul_one, RR, IA, PA, RA0, RA1, RA2, RA3, RA4, RA5, RA6, RA7, RA8, RA9, RA10, Nat.reduceAdd, Nat.reduceMul, Nat.reduceEqDiff, Nat.reduceLeDiff, Nat.reduceLT, Int.reduceToNat, Int.reduceLT, Int.reduceLE, Int.reduceEq, Int.reduceNeg, Int.reduceAdd, Int.reduceSub, Int.reduceMul, reduceIte] at hrun
  rw [pick_call (withOpt_nil_lo (by decide)) (by rfl) ha] at hrun
  obtain ⟨b, b0, b1, hb⟩ := pick_ev l hl (p + 1) (by omega) 3 (by decide)
  simp only [hkn, TMA, Int.toNat_natCast, Nat.mul_one, RR, IA, PA, RA0, RA1, RA2, RA3, RA4, RA5, RA6, RA7, RA8, RA9, RA10, Nat.reduceAdd, Nat.reduceMul, Nat.reduceEqDiff, Nat.reduceLeDiff, Nat.reduceLT, Int.reduceToNat, Int.reduceLT, Int.reduceLE, Int.reduceEq, Int.reduceNeg, Int.reduceAdd, Int.reduceSub, Int.reduceMul, reduceIte] at hrun
  rw [pick_call (withOpt_nil_lo (by decide)) (by rfl) hb] at hrun
  by_cases hb0 : 0 < b
  · obtain ⟨c, c0, c1, hc⟩ := pick_ev l hl (p + 1 + 1) (by omega) 3 (by decide)
    simp only [hb0, hkn, TMA, Int.toNat_natCast, Nat.mul_one, RR, IA, PA, RA0, RA1, RA2, RA3, RA4, RA5, RA6, RA7, RA8, RA9, RA10, Nat.reduceAdd, Nat.reduceMul, Nat.reduceEqDiff, Nat.reduceLeDiff, Nat.reduceLT, Int.reduceToNat, Int.reduceLT, Int.reduceLE, Int.reduceEq, Int.reduceNeg, Int.reduceAdd, Int.reduceSub, Int.reduceMul, reduceIte] at hrun
    rw [pick_call (withOpt_nil_lo (by decide)) (by rfl) hc] at hrun
    obtain ⟨d, d0, d1, hd⟩ := pick_ev l hl (p + 1 + 1 + 1) (by omega) 5 (by decide)
    simp only [hb0, hkn, TMA, Int.toNat_natCast, Nat.mul_one, RR, IA, PA, RA0, RA1, RA2, RA3, RA4, RA5, RA6, RA7, RA8, RA9, RA10, Nat.reduceAdd, Nat.reduceMul, Nat.reduceEqDiff, Nat.reduceLeDiff, Nat.reduceLT, Int.reduceToNat, Int.reduceLT, Int.reduceLE, Int.reduceEq, Int.reduceNeg, Int.reduceAdd, Int.reduceSub, Int.reduceMul, reduceIte] at hrun
    rw [pick_call (withOpt_nil_lo (by decide)) (by rfl) hd] at hrun
    have hwd : IntKind.i64.wrap (2 + d) = 2 + d := wrap64 (by omega) (by omega)
    have hc6 : cD 6 = 254 := rfl
    have hb6 : bD 6 = 379 := rfl
    obtain ⟨s, p', hs, sl0, sl1, hpp⟩ := draw_ok l hl 6 (by decide) c (2 + d) [] [] (p + 1 + 1 + 1 + 1) (by have := d1 (by decide); omega) (by omega) (by decide) (by decide) (by rw [hc6]; omega)
    rw [hc6] at hpp
    rw [hb6] at sl1
    simp only [hb0, hkn, hwd, TMA, Int.toNat_natCast, Nat.mul_one, RR, IA, PA, RA0, RA1, RA2, RA3, RA4, RA5, RA6, RA7, RA8, RA9, RA10, Nat.reduceAdd, Nat.reduceMul, Nat.reduceEqDiff, Nat.reduceLeDiff, Nat.reduceLT, Int.reduceToNat, Int.reduceLT, Int.reduceLE, Int.reduceEq, Int.reduceNeg, Int.reduceAdd, Int.reduceSub, Int.reduceMul, reduceIte] at hrun
    rw [draw_call (by rfl) hs] at hrun
    by_cases h80 : (80 : Int) < (s.length : Int)
    · simp only [h80, TMA, Int.toNat_natCast, Nat.mul_one, RR, IA, PA, RA0, RA1, RA2, RA3, RA4, RA5, RA6, RA7, RA8, RA9, RA10, Nat.reduceAdd, Nat.reduceMul, Nat.reduceEqDiff, Nat.reduceLeDiff, Nat.reduceLT, Int.reduceToNat, Int.reduceLT, Int.reduceLE, Int.reduceEq, Int.reduceNeg, Int.reduceAdd, Int.reduceSub, Int.reduceMul, reduceIte] at hrun
      obtain ⟨sa, hsa⟩ : ∃ sa : List UInt8, sa = [83, 97] := ⟨_, rfl⟩
      have hsl : sa.length = 2 := by rw [hsa]; rfl
      rw [← hsa] at hrun
      obtain ⟨u, u0, u1, hu⟩ := pick_ev l hl p' (by omega) 18 (by decide)
      try simp only [h80, TMA, Int.toNat_natCast, Nat.mul_one, RR, IA, PA, RA0, RA1, RA2, RA3, RA4, RA5, RA6, RA7, RA8, RA9, RA10, Nat.reduceAdd, Nat.reduceMul, Nat.reduceEqDiff, Nat.reduceLeDiff, Nat.reduceLT, Int.reduceToNat, Int.reduceLT, Int.reduceLE, Int.reduceEq, Int.reduceNeg, Int.reduceAdd, Int.reduceSub, Int.reduceMul, reduceIte] at hrun
      rw [pick_call (withOpt_nil_lo (by decide)) (by rfl) hu] at hrun
      by_cases hu0 : 0 < u
      · simp only [hu0, h80, TMA, Int.toNat_natCast, Nat.mul_one, RR, IA, PA, RA0, RA1, RA2, RA3, RA4, RA5, RA6, RA7, RA8, RA9, RA10, Nat.reduceAdd, Nat.reduceMul, Nat.reduceEqDiff, Nat.reduceLeDiff, Nat.reduceLT, Int.reduceToNat, Int.reduceLT, Int.reduceLE, Int.reduceEq, Int.reduceNeg, Int.reduceAdd, Int.reduceSub, Int.reduceMul, reduceIte] at hrun
        exact ⟨sa, p' + 1, hrun _ (out_one rfl rfl rfl (src_cl l (p' + 1)) rfl), by omega, by omega⟩
      · obtain ⟨k, k0, k1, hk⟩ := pick_ev l hl (p' + 1) (by omega) (List.length sa : Int) (by omega)
        have hkl := k1 (by omega)
        obtain ⟨k, rfl⟩ : ∃ q : Nat, k = (q : Int) := ⟨k.toNat, by omega⟩
        simp only [hu0, h80, TMA, Int.toNat_natCast, Nat.mul_one, RR, IA, PA, RA0, RA1, RA2, RA3, RA4, RA5, RA6, RA7, RA8, RA9, RA10, Nat.reduceAdd, Nat.reduceMul, Nat.reduceEqDiff, Nat.reduceLeDiff, Nat.reduceLT, Int.reduceToNat, Int.reduceLT, Int.reduceLE, Int.reduceEq, Int.reduceNeg, Int.reduceAdd, Int.reduceSub, Int.reduceMul, reduceIte] at hrun
        rw [pick_call (withOpt_nil_lo (by decide)) (by rfl) hk] at hrun
        obtain ⟨x, hm, hx⟩ := of_ev l hl (p' + 1 + 1) (by omega) true cut7L (by decide) (by decide)
        have hxl := cut7_len x hm
        have hkle : (k : Int) ≤ (List.length sa : Int) := by omega
        simp only [cut7, k0, hkle, h80, TMA, Int.toNat_natCast, Nat.mul_one, RR, IA, PA, RA0, RA1, RA2, RA3, RA4, RA5, RA6, RA7, RA8, RA9, RA10, Nat.reduceAdd, Nat.reduceMul, Nat.reduceEqDiff, Nat.reduceLeDiff, Nat.reduceLT, Int.reduceToNat, Int.reduceLT, Int.reduceLE, Int.reduceEq, Int.reduceNeg, Int.reduceAdd, Int.reduceSub, Int.reduceMul, reduceIte] at hrun
        rw [of_call (L := cut7L) (n := 7) rfl (by rfl) hx] at hrun
        obtain ⟨w, w0, w1, hw⟩ := pick_ev l hl (p' + 1 + 1 + 1) (by omega) 2 (by decide)
        have c1 := cat (List.take k sa) x (by have := take_len sa k; omega)
        simp only [c1, k0, hkle, h80, TMA, Int.toNat_natCast, Nat.mul_one, RR, IA, PA, RA0, RA1, RA2, RA3, RA4, RA5, RA6, RA7, RA8, RA9, RA10, Nat.reduceAdd, Nat.reduceMul, Nat.reduceEqDiff, Nat.reduceLeDiff, Nat.reduceLT, Int.reduceToNat, Int.reduceLT, Int.reduceLE, Int.reduceEq, Int.reduceNeg, Int.reduceAdd, Int.reduceSub, Int.reduceMul, reduceIte] at hrun
        rw [pick_call (withOpt_nil_lo (by decide)) (by rfl) hw] at hrun
        obtain ⟨w, rfl⟩ : ∃ q : Nat, w = (q : Int) := ⟨w.toNat, by omega⟩
        have hww : IntKind.i64.wrap ((k : Int) + (w : Int)) = ((k + w : Nat) : Int) := by rw [wrap64 (by omega) (by omega)]; omega
        have hz : (0 : Int) ≤ ((k + w : Nat) : Int) := by omega
        have hkw : ((k + w : Nat) : Int) ≤ (List.length sa : Int) := by omega
        have c2 := cat (List.take k sa ++ x) (List.drop (k + w) sa) (by
          have := take_len sa k
          have := drop_len sa (k + w)
          simp only [List.length_append]
          omega)
        simp only [c1, c2, hww, hz, hkw, k0, hkle, h80, TMA, Int.toNat_natCast, Nat.mul_one, RR, IA, PA, RA0, RA1, RA2, RA3, RA4, RA5, RA6, RA7, RA8, RA9, RA10, Nat.reduceAdd, Nat.reduceMul, Nat.reduceEqDiff, Nat.reduceLeDiff, Nat.reduceLT, Int.reduceToNat, Int.reduceLT, Int.reduceLE, Int.reduceEq, Int.reduceNeg, Int.reduceAdd, Int.reduceSub, Int.reduceMul, reduceIte] at hrun
        exact ⟨_, p' + 1 + 1 + 1 + 1, hrun _ (out_one rfl rfl rfl (src_cl l (p' + 1 + 1 + 1 + 1)) rfl), by
          have := take_len sa k
          have := drop_len sa (k + w)
          simp only [List.length_append]
          omega, by omega⟩
    · have s80 : s.length ≤ 80 := by omega
      simp only [h80, TMA, Int.toNat_natCast, Nat.mul_one, RR, IA, PA, RA0, RA1, RA2, RA3, RA4, RA5, RA6, RA7, RA8, RA9, RA10, Nat.reduceAdd, Nat.reduceMul, Nat.reduceEqDiff, Nat.reduceLeDiff, Nat.reduceLT, Int.reduceToNat, Int.reduceLT, Int.reduceLE, Int.reduceEq, Int.reduceNeg, Int.reduceAdd, Int.reduceSub, Int.reduceMul, reduceIte] at hrun
      obtain ⟨u, u0, u1, hu⟩ := pick_ev l hl p' (by omega) 18 (by decide)
      try simp only [h80, TMA, Int.toNat_natCast, Nat.mul_one, RR, IA, PA, RA0, RA1, RA2, RA3, RA4, RA5, RA6, RA7, RA8, RA9, RA10, Nat.reduceAdd, Nat.reduceMul, Nat.reduceEqDiff, Nat.reduceLeDiff, Nat.reduceLT, Int.reduceToNat, Int.reduceLT, Int.reduceLE, Int.reduceEq, Int.reduceNeg, Int.reduceAdd, Int.reduceSub, Int.reduceMul, reduceIte] at hrun
      rw [pick_call (withOpt_nil_lo (by decide)) (by rfl) hu] at hrun
      by_cases hu0 : 0 < u
      · simp only [hu0, h80, TMA, Int.toNat_natCast, Nat.mul_one, RR, IA, PA, RA0, RA1, RA2, RA3, RA4, RA5, RA6, RA7, RA8, RA9, RA10, Nat.reduceAdd, Nat.reduceMul, Nat.reduceEqDiff, Nat.reduceLeDiff, Nat.reduceLT, Int.reduceToNat, Int.reduceLT, Int.reduceLE, Int.reduceEq, Int.reduceNeg, Int.reduceAdd, Int.reduceSub, Int.reduceMul, reduceIte] at hrun
        exact ⟨s, p' + 1, hrun _ (out_one rfl rfl rfl (src_cl l (p' + 1)) rfl), by omega, by omega⟩
      · obtain ⟨k, k0, k1, hk⟩ := pick_ev l hl (p' + 1) (by omega) (List.length s : Int) (by omega)
        have hkl := k1 (by omega)
        obtain ⟨k, rfl⟩ : ∃ q : Nat, k = (q : Int) := ⟨k.toNat, by omega⟩
        simp only [hu0, h80, TMA, Int.toNat_natCast, Nat.mul_one, RR, IA, PA, RA0, RA1, RA2, RA3, RA4, RA5, RA6, RA7, RA8, RA9, RA10, Nat.reduceAdd, Nat.reduceMul, Nat.reduceEqDiff, Nat.reduceLeDiff, Nat.reduceLT, Int.reduceToNat, Int.reduceLT, Int.reduceLE, Int.reduceEq, Int.reduceNeg, Int.reduceAdd, Int.reduceSub, Int.reduceMul, reduceIte] at hrun
        rw [pick_call (withOpt_nil_lo (by decide)) (by rfl) hk] at hrun
        obtain ⟨x, hm, hx⟩ := of_ev l hl (p' + 1 + 1) (by omega) true cut7L (by decide) (by decide)
        have hxl := cut7_len x hm
        have hkle : (k : Int) ≤ (List.length s : Int) := by omega
        simp only [cut7, k0, hkle, h80, TMA, Int.toNat_natCast, Nat.mul_one, RR, IA, PA, RA0, RA1, RA2, RA3, RA4, RA5, RA6, RA7, RA8, RA9, RA10, Nat.reduceAdd, Nat.reduceMul, Nat.reduceEqDiff, Nat.reduceLeDiff, Nat.reduceLT, Int.reduceToNat, Int.reduceLT, Int.reduceLE, Int.reduceEq, Int.reduceNeg, Int.reduceAdd, Int.reduceSub, Int.reduceMul, reduceIte] at hrun
        rw [of_call (L := cut7L) (n := 7) rfl (by rfl) hx] at hrun
        obtain ⟨w, w0, w1, hw⟩ := pick_ev l hl (p' + 1 + 1 + 1) (by omega) 2 (by decide)
        have c1 := cat (List.take k s) x (by have := take_len s k; omega)
        simp only [c1, k0, hkle, h80, TMA, Int.toNat_natCast, Nat.mul_one, RR, IA, PA, RA0, RA1, RA2, RA3, RA4, RA5, RA6, RA7, RA8, RA9, RA10, Nat.reduceAdd, Nat.reduceMul, Nat.reduceEqDiff, Nat.reduceLeDiff, Nat.reduceLT, Int.reduceToNat, Int.reduceLT, Int.reduceLE, Int.reduceEq, Int.reduceNeg, Int.reduceAdd, Int.reduceSub, Int.reduceMul, reduceIte] at hrun
        rw [pick_call (withOpt_nil_lo (by decide)) (by rfl) hw] at hrun
        obtain ⟨w, rfl⟩ : ∃ q : Nat, w = (q : Int) := ⟨w.toNat, by omega⟩
        have hww : IntKind.i64.wrap ((k : Int) + (w : Int)) = ((k + w : Nat) : Int) := by rw [wrap64 (by omega) (by omega)]; omega
        have hz : (0 : Int) ≤ ((k + w : Nat) : Int) := by omega
        have hkw : ((k + w : Nat) : Int) ≤ (List.length s : Int) := by omega
        have c2 := cat (List.take k s ++ x) (List.drop (k + w) s) (by
          have := take_len s k
          have := drop_len s (k + w)
          simp only [List.length_append]
          omega)
        simp only [c1, c2, hww, hz, hkw, k0, hkle, h80, TMA, Int.toNat_natCast, Nat.mul_one, RR, IA, PA, RA0, RA1, RA2, RA3, RA4, RA5, RA6, RA7, RA8, RA9, RA10, Nat.reduceAdd, Nat.reduceMul, Nat.reduceEqDiff, Nat.reduceLeDiff, Nat.reduceLT, Int.reduceToNat, Int.reduceLT, Int.reduceLE, Int.reduceEq, Int.reduceNeg, Int.reduceAdd, Int.reduceSub, Int.reduceMul, reduceIte] at hrun
        exact ⟨_, p' + 1 + 1 + 1 + 1, hrun _ (out_one rfl rfl rfl (src_cl l (p' + 1 + 1 + 1 + 1)) rfl), by
          have := take_len s k
          have := drop_len s (k + w)
          simp only [List.length_append]
          omega, by omega⟩
  · simp only [hb0, hkn, TMA, Int.toNat_natCast, Nat.mul_one, RR, IA, PA, RA0, RA1, RA2, RA3, RA4, RA5, RA6, RA7, RA8, RA9, RA10, Nat.reduceAdd, Nat.reduceMul, Nat.reduceEqDiff, Nat.reduceLeDiff, Nat.reduceLT, Int.reduceToNat, Int.reduceLT, Int.reduceLE, Int.reduceEq, Int.reduceNeg, Int.reduceAdd, Int.reduceSub, Int.reduceMul, reduceIte] at hrun
    have h80 : ¬ ((80 : Int) < (kn.length : Int)) := by omega
    simp only [h80, TMA, Int.toNat_natCast, Nat.mul_one, RR, IA, PA, RA0, RA1, RA2, RA3, RA4, RA5, RA6, RA7, RA8, RA9, RA10, Nat.reduceAdd, Nat.reduceMul, Nat.reduceEqDiff, Nat.reduceLeDiff, Nat.reduceLT, Int.reduceToNat, Int.reduceLT, Int.reduceLE, Int.reduceEq, Int.reduceNeg, Int.reduceAdd, Int.reduceSub, Int.reduceMul, reduceIte] at hrun
    obtain ⟨u, u0, u1, hu⟩ := pick_ev l hl (p + 1 + 1) (by omega) 18 (by decide)
    try simp only [h80, TMA, Int.toNat_natCast, Nat.mul_one, RR, IA, PA, RA0, RA1, RA2, RA3, RA4, RA5, RA6, RA7, RA8, RA9, RA10, Nat.reduceAdd, Nat.reduceMul, Nat.reduceEqDiff, Nat.reduceLeDiff, Nat.reduceLT, Int.reduceToNat, Int.reduceLT, Int.reduceLE, Int.reduceEq, Int.reduceNeg, Int.reduceAdd, Int.reduceSub, Int.reduceMul, reduceIte] at hrun
    rw [pick_call (withOpt_nil_lo (by decide)) (by rfl) hu] at hrun
    by_cases hu0 : 0 < u
    · simp only [hu0, h80, TMA, Int.toNat_natCast, Nat.mul_one, RR, IA, PA, RA0, RA1, RA2, RA3, RA4, RA5, RA6, RA7, RA8, RA9, RA10, Nat.reduceAdd, Nat.reduceMul, Nat.reduceEqDiff, Nat.reduceLeDiff, Nat.reduceLT, Int.reduceToNat, Int.reduceLT, Int.reduceLE, Int.reduceEq, Int.reduceNeg, Int.reduceAdd, Int.reduceSub, Int.reduceMul, reduceIte] at hrun
      exact ⟨kn, (p + 1 + 1) + 1, hrun _ (out_one rfl rfl rfl (src_cl l ((p + 1 + 1) + 1)) rfl), by omega, by omega⟩
    · obtain ⟨k, k0, k1, hk⟩ := pick_ev l hl ((p + 1 + 1) + 1) (by omega) (List.length kn : Int) (by omega)
      have hkl := k1 (by omega)
      obtain ⟨k, rfl⟩ : ∃ q : Nat, k = (q : Int) := ⟨k.toNat, by omega⟩
      simp only [hu0, h80, TMA, Int.toNat_natCast, Nat.mul_one, RR, IA, PA, RA0, RA1, RA2, RA3, RA4, RA5, RA6, RA7, RA8, RA9, RA10, Nat.reduceAdd, Nat.reduceMul, Nat.reduceEqDiff, Nat.reduceLeDiff, Nat.reduceLT, Int.reduceToNat, Int.reduceLT, Int.reduceLE, Int.reduceEq, Int.reduceNeg, Int.reduceAdd, Int.reduceSub, Int.reduceMul, reduceIte] at hrun
      rw [pick_call (withOpt_nil_lo (by decide)) (by rfl) hk] at hrun
      obtain ⟨x, hm, hx⟩ := of_ev l hl ((p + 1 + 1) + 1 + 1) (by omega) true cut7L (by decide) (by decide)
      have hxl := cut7_len x hm
      have hkle : (k : Int) ≤ (List.length kn : Int) := by omega
      simp only [cut7, k0, hkle, h80, TMA, Int.toNat_natCast, Nat.mul_one, RR, IA, PA, RA0, RA1, RA2, RA3, RA4, RA5, RA6, RA7, RA8, RA9, RA10, Nat.reduceAdd, Nat.reduceMul, Nat.reduceEqDiff, Nat.reduceLeDiff, Nat.reduceLT, Int.reduceToNat, Int.reduceLT, Int.reduceLE, Int.reduceEq, Int.reduceNeg, Int.reduceAdd, Int.reduceSub, Int.reduceMul, reduceIte] at hrun
      rw [of_call (L := cut7L) (n := 7) rfl (by rfl) hx] at hrun
      obtain ⟨w, w0, w1, hw⟩ := pick_ev l hl ((p + 1 + 1) + 1 + 1 + 1) (by omega) 2 (by decide)
      have c1 := cat (List.take k kn) x (by have := take_len kn k; omega)
      simp only [c1, k0, hkle, h80, TMA, Int.toNat_natCast, Nat.mul_one, RR, IA, PA, RA0, RA1, RA2, RA3, RA4, RA5, RA6, RA7, RA8, RA9, RA10, Nat.reduceAdd, Nat.reduceMul, Nat.reduceEqDiff, Nat.reduceLeDiff, Nat.reduceLT, Int.reduceToNat, Int.reduceLT, Int.reduceLE, Int.reduceEq, Int.reduceNeg, Int.reduceAdd, Int.reduceSub, Int.reduceMul, reduceIte] at hrun
      rw [pick_call (withOpt_nil_lo (by decide)) (by rfl) hw] at hrun
      obtain ⟨w, rfl⟩ : ∃ q : Nat, w = (q : Int) := ⟨w.toNat, by omega⟩
      have hww : IntKind.i64.wrap ((k : Int) + (w : Int)) = ((k + w : Nat) : Int) := by rw [wrap64 (by omega) (by omega)]; omega
      have hz : (0 : Int) ≤ ((k + w : Nat) : Int) := by omega
      have hkw : ((k + w : Nat) : Int) ≤ (List.length kn : Int) := by omega
      have c2 := cat (List.take k kn ++ x) (List.drop (k + w) kn) (by
        have := take_len kn k
        have := drop_len kn (k + w)
        simp only [List.length_append]
        omega)
      simp only [c1, c2, hww, hz, hkw, k0, hkle, h80, TMA, Int.toNat_natCast, Nat.mul_one, RR, IA, PA, RA0, RA1, RA2, RA3, RA4, RA5, RA6, RA7, RA8, RA9, RA10, Nat.reduceAdd, Nat.reduceMul, Nat.reduceEqDiff, Nat.reduceLeDiff, Nat.reduceLT, Int.reduceToNat, Int.reduceLT, Int.reduceLE, Int.reduceEq, Int.reduceNeg, Int.reduceAdd, Int.reduceSub, Int.reduceMul, reduceIte] at hrun
      exact ⟨_, (p + 1 + 1) + 1 + 1 + 1 + 1, hrun _ (out_one rfl rfl rfl (src_cl l ((p + 1 + 1) + 1 + 1 + 1 + 1)) rfl), by
        have := take_len kn k
        have := drop_len kn (k + w)
        simp only [List.length_append]
        omega, by omega⟩
end
end Go.Proofs.YtegbkihgnofkfaaDoor.Ev

/-
Draws: texts that can be simplified; what is drawn of bytes (written by wip/tools/gen_di.py).
-/
namespace Go.Proofs.YtegbkihgnofkfaaDoor.Ev
section
set_option linter.unusedVariables false
set_option linter.unusedSimpArgs false
open Go Go.RowKit
set_option linter.unusedVariables false
set_option linter.unusedSimpArgs false
theorem some_call {σ : Sto} {l : List UInt8} {p p' id : Nat} {s : List UInt8} (hσ : σ id = some (.ob 77 (srcC l p))) (h : EE 44 [srcL l p] = some (.t [S s, .t [srcL l p']])) (key : Nat) :
    callOp EE (withOpt [] pf) σ key 44 [.r id 0] = some (S s, upd σ id (some (.ob 77 (srcC l p')))) :=
  call_ob_v (withOpt_nil_lo (by decide)) hσ (src_cl l p) rfl h (src_cl l p') rfl (show 1 ≤ 4 by decide)
theorem some10_call {σ : Sto} {l : List UInt8} {p p' id : Nat} {s : List UInt8} (hσ : σ id = some (.ob 77 (srcC l p))) (h : EE 68 [srcL l p] = some (.t [S s, .t [srcL l p']])) (key : Nat) :
    callOp EE (withOpt [] pf) σ key 68 [.r id 0] = some (S s, upd σ id (some (.ob 77 (srcC l p')))) :=
  call_ob_v (withOpt_nil_lo (by decide)) hσ (src_cl l p) rfl h (src_cl l p') rfl (show 1 ≤ 4 by decide)
set_option maxHeartbeats 16000000 in
theorem some10_ev (l : List UInt8) (hl : l.length ≤ 2000) (p : Nat) (hp : p + 2000 ≤ 1000000) : ∃ s p', EE 68 [srcL l p] = some (.t [S s, .t [srcL l p']]) ∧ s.length ≤ 300 ∧ p' ≤ p + 910 := by
  have hrun : ∀ y, ((evC II EE (withOpt (opt 68) pf) MX (strip (bodyOf Tryd.f68)) ⟨fun t => (.r 0 0 :: []).getD t (.v undef), upd (fun _ => none) 0 (some (.ob 77 (srcC l p))), 1⟩).bind (outK II Tryd.f68.results.toList (.r 0 0 :: []))) = some y → EE 68 [srcL l p] = some y := fun y h => EE_lend T_some10 (by decide) (Nat.le_of_ble_eq_true rfl) (src_cl l p) rfl h
  rw [show opt 68 = [] from rfl] at hrun
  simp only [bodyOf, Tryd.f68, SA] at hrun
  obtain ⟨s, q, hs, sl, hq⟩ := some_ev l hl p (by omega)
  simp only [TMA, Int.toNat_natCast, Nat.mul_one, RR, IA, PA, RA0, RA1, RA2, RA3, RA4, RA5, RA6, RA7, RA8, RA9, RA10, Nat.reduceAdd, Nat.reduceMul, Nat.reduceEqDiff, Nat.reduceLeDiff, Nat.reduceLT, Int.reduceToNat, Int.reduceLT, Int.reduceLE, Int.reduceEq, Int.reduceNeg, Int.reduceAdd, Int.reduceSub, Int.reduceMul, reduceIte] at hrun
  rw [some_call (by rfl) hs] at hrun
  obtain ⟨v, v0, v1, hv⟩ := pick_ev l hl q (by omega) 8 (by decide)
  simp only [TMA, Int.toNat_natCast, Nat.mul_one, RR, IA, PA, RA0, RA1, RA2, RA3, RA4, RA5, RA6, RA7, RA8, RA9, RA10, Nat.reduceAdd, Nat.reduceMul, Nat.reduceEqDiff, Nat.reduceLeDiff, Nat.reduceLT, Int.reduceToNat, Int.reduceLT, Int.reduceLE, Int.reduceEq, Int.reduceNeg, Int.reduceAdd, Int.reduceSub, Int.reduceMul, reduceIte] at hrun
  rw [pick_call (withOpt_nil_lo (by decide)) (by rfl) hv] at hrun
  by_cases e0 : v = 0
  · subst e0
    have k1 := cat ([83, 82]) (s) (by (try simp only [List.length_append, List.length_cons, List.length_nil]); omega)
    try simp only [List.cons_append, List.nil_append] at k1
    have hal : ([83, 82] ++ s : List UInt8).length ≤ 250 := by (try simp only [List.length_append, List.length_cons, List.length_nil]); omega
    by_cases h80 : (80 : Int) < (([83, 82] ++ s : List UInt8).length : Int)
    · try simp only [List.cons_append, List.nil_append, List.length_cons] at h80
      simp only [k1, h80, TMA, Int.toNat_natCast, Nat.mul_one, RR, IA, PA, RA0, RA1, RA2, RA3, RA4, RA5, RA6, RA7, RA8, RA9, RA10, Nat.reduceAdd, Nat.reduceMul, Nat.reduceEqDiff, Nat.reduceLeDiff, Nat.reduceLT, Int.reduceToNat, Int.reduceLT, Int.reduceLE, Int.reduceEq, Int.reduceNeg, Int.reduceAdd, Int.reduceSub, Int.reduceMul, reduceIte] at hrun
      exact ⟨[82, 82, 97], (q + 1), hrun _ (out_one rfl rfl rfl (src_cl l _) rfl), by decide, by omega⟩
    · have hle : ([83, 82] ++ s : List UInt8).length ≤ 80 := by omega
      try simp only [List.cons_append, List.nil_append, List.length_cons] at h80
      simp only [k1, h80, TMA, Int.toNat_natCast, Nat.mul_one, RR, IA, PA, RA0, RA1, RA2, RA3, RA4, RA5, RA6, RA7, RA8, RA9, RA10, Nat.reduceAdd, Nat.reduceMul, Nat.reduceEqDiff, Nat.reduceLeDiff, Nat.reduceLT, Int.reduceToNat, Int.reduceLT, Int.reduceLE, Int.reduceEq, Int.reduceNeg, Int.reduceAdd, Int.reduceSub, Int.reduceMul, reduceIte] at hrun
      exact ⟨[83, 82] ++ s, (q + 1), hrun _ (out_one rfl rfl rfl (src_cl l _) rfl), by omega, by omega⟩
  by_cases e1 : v = 1
  · subst e1
    have k1 := cat ([40]) (s) (by (try simp only [List.length_append, List.length_cons, List.length_nil]); omega)
    try simp only [List.cons_append, List.nil_append] at k1
    obtain ⟨x, hm, hx⟩ := of_ev l hl (q + 1) (by omega) true neu4L (by decide) (by decide)
    have hxl := neu4_len x hm
    simp only [k1, neu4, TMA, Int.toNat_natCast, Nat.mul_one, RR, IA, PA, RA0, RA1, RA2, RA3, RA4, RA5, RA6, RA7, RA8, RA9, RA10, Nat.reduceAdd, Nat.reduceMul, Nat.reduceEqDiff, Nat.reduceLeDiff, Nat.reduceLT, Int.reduceToNat, Int.reduceLT, Int.reduceLE, Int.reduceEq, Int.reduceNeg, Int.reduceAdd, Int.reduceSub, Int.reduceMul, reduceIte] at hrun
    rw [of_call (L := neu4L) (n := 4) rfl (by rfl) hx] at hrun
    have k2 := cat ([40] ++ s) (x) (by (try simp only [List.length_append, List.length_cons, List.length_nil]); omega)
    try simp only [List.cons_append, List.nil_append] at k2
    have hal : ([40] ++ s ++ x : List UInt8).length ≤ 250 := by (try simp only [List.length_append, List.length_cons, List.length_nil]); omega
    by_cases h80 : (80 : Int) < (([40] ++ s ++ x : List UInt8).length : Int)
    · try simp only [List.cons_append, List.nil_append, List.length_cons] at h80
      simp only [k1, neu4, k2, h80, TMA, Int.toNat_natCast, Nat.mul_one, RR, IA, PA, RA0, RA1, RA2, RA3, RA4, RA5, RA6, RA7, RA8, RA9, RA10, Nat.reduceAdd, Nat.reduceMul, Nat.reduceEqDiff, Nat.reduceLeDiff, Nat.reduceLT, Int.reduceToNat, Int.reduceLT, Int.reduceLE, Int.reduceEq, Int.reduceNeg, Int.reduceAdd, Int.reduceSub, Int.reduceMul, reduceIte] at hrun
      exact ⟨[82, 82, 97], (q + 1 + 1), hrun _ (out_one rfl rfl rfl (src_cl l _) rfl), by decide, by omega⟩
    · have hle : ([40] ++ s ++ x : List UInt8).length ≤ 80 := by omega
      try simp only [List.cons_append, List.nil_append, List.length_cons] at h80
      simp only [k1, neu4, k2, h80, TMA, Int.toNat_natCast, Nat.mul_one, RR, IA, PA, RA0, RA1, RA2, RA3, RA4, RA5, RA6, RA7, RA8, RA9, RA10, Nat.reduceAdd, Nat.reduceMul, Nat.reduceEqDiff, Nat.reduceLeDiff, Nat.reduceLT, Int.reduceToNat, Int.reduceLT, Int.reduceLE, Int.reduceEq, Int.reduceNeg, Int.reduceAdd, Int.reduceSub, Int.reduceMul, reduceIte] at hrun
      exact ⟨[40] ++ s ++ x, (q + 1 + 1), hrun _ (out_one rfl rfl rfl (src_cl l _) rfl), by omega, by omega⟩
  by_cases e2 : v = 2
  · subst e2
    have k1 := cat ([91, 120, 58]) (s) (by (try simp only [List.length_append, List.length_cons, List.length_nil]); omega)
    try simp only [List.cons_append, List.nil_append] at k1
    have k2 := cat ([91, 120, 58] ++ s) ([62, 120, 93]) (by (try simp only [List.length_append, List.length_cons, List.length_nil]); omega)
    try simp only [List.cons_append, List.nil_append] at k2
    have hal : ([91, 120, 58] ++ s ++ [62, 120, 93] : List UInt8).length ≤ 250 := by (try simp only [List.length_append, List.length_cons, List.length_nil]); omega
    by_cases h80 : (80 : Int) < (([91, 120, 58] ++ s ++ [62, 120, 93] : List UInt8).length : Int)
    · try simp only [List.cons_append, List.nil_append, List.length_cons] at h80
      simp only [k1, k2, h80, TMA, Int.toNat_natCast, Nat.mul_one, RR, IA, PA, RA0, RA1, RA2, RA3, RA4, RA5, RA6, RA7, RA8, RA9, RA10, Nat.reduceAdd, Nat.reduceMul, Nat.reduceEqDiff, Nat.reduceLeDiff, Nat.reduceLT, Int.reduceToNat, Int.reduceLT, Int.reduceLE, Int.reduceEq, Int.reduceNeg, Int.reduceAdd, Int.reduceSub, Int.reduceMul, reduceIte] at hrun
      exact ⟨[82, 82, 97], (q + 1), hrun _ (out_one rfl rfl rfl (src_cl l _) rfl), by decide, by omega⟩
    · have hle : ([91, 120, 58] ++ s ++ [62, 120, 93] : List UInt8).length ≤ 80 := by omega
      try simp only [List.cons_append, List.nil_append, List.length_cons] at h80
      simp only [k1, k2, h80, TMA, Int.toNat_natCast, Nat.mul_one, RR, IA, PA, RA0, RA1, RA2, RA3, RA4, RA5, RA6, RA7, RA8, RA9, RA10, Nat.reduceAdd, Nat.reduceMul, Nat.reduceEqDiff, Nat.reduceLeDiff, Nat.reduceLT, Int.reduceToNat, Int.reduceLT, Int.reduceLE, Int.reduceEq, Int.reduceNeg, Int.reduceAdd, Int.reduceSub, Int.reduceMul, reduceIte] at hrun
      exact ⟨[91, 120, 58] ++ s ++ [62, 120, 93], (q + 1), hrun _ (out_one rfl rfl rfl (src_cl l _) rfl), by omega, by omega⟩
  by_cases e3 : v = 3
  · subst e3
    have k1 := cat ([78, 91, 121, 58]) (s) (by (try simp only [List.length_append, List.length_cons, List.length_nil]); omega)
    try simp only [List.cons_append, List.nil_append] at k1
    have k2 := cat ([78, 91, 121, 58] ++ s) ([62, 51, 93]) (by (try simp only [List.length_append, List.length_cons, List.length_nil]); omega)
    try simp only [List.cons_append, List.nil_append] at k2
    have hal : ([78, 91, 121, 58] ++ s ++ [62, 51, 93] : List UInt8).length ≤ 250 := by (try simp only [List.length_append, List.length_cons, List.length_nil]); omega
    by_cases h80 : (80 : Int) < (([78, 91, 121, 58] ++ s ++ [62, 51, 93] : List UInt8).length : Int)
    · try simp only [List.cons_append, List.nil_append, List.length_cons] at h80
      simp only [k1, k2, h80, TMA, Int.toNat_natCast, Nat.mul_one, RR, IA, PA, RA0, RA1, RA2, RA3, RA4, RA5, RA6, RA7, RA8, RA9, RA10, Nat.reduceAdd, Nat.reduceMul, Nat.reduceEqDiff, Nat.reduceLeDiff, Nat.reduceLT, Int.reduceToNat, Int.reduceLT, Int.reduceLE, Int.reduceEq, Int.reduceNeg, Int.reduceAdd, Int.reduceSub, Int.reduceMul, reduceIte] at hrun
      exact ⟨[82, 82, 97], (q + 1), hrun _ (out_one rfl rfl rfl (src_cl l _) rfl), by decide, by omega⟩
    · have hle : ([78, 91, 121, 58] ++ s ++ [62, 51, 93] : List UInt8).length ≤ 80 := by omega
      try simp only [List.cons_append, List.nil_append, List.length_cons] at h80
      simp only [k1, k2, h80, TMA, Int.toNat_natCast, Nat.mul_one, RR, IA, PA, RA0, RA1, RA2, RA3, RA4, RA5, RA6, RA7, RA8, RA9, RA10, Nat.reduceAdd, Nat.reduceMul, Nat.reduceEqDiff, Nat.reduceLeDiff, Nat.reduceLT, Int.reduceToNat, Int.reduceLT, Int.reduceLE, Int.reduceEq, Int.reduceNeg, Int.reduceAdd, Int.reduceSub, Int.reduceMul, reduceIte] at hrun
      exact ⟨[78, 91, 121, 58] ++ s ++ [62, 51, 93], (q + 1), hrun _ (out_one rfl rfl rfl (src_cl l _) rfl), by omega, by omega⟩
  by_cases e4 : v = 4
  · subst e4
    have k1 := cat ([91, 120, 58, 91, 121, 58]) (s) (by (try simp only [List.length_append, List.length_cons, List.length_nil]); omega)
    try simp only [List.cons_append, List.nil_append] at k1
    obtain ⟨x, hm, hx⟩ := of_ev l hl (q + 1) (by omega) true fus4L (by decide) (by decide)
    have hxl := fus4_len x hm
    simp only [k1, fus4, TMA, Int.toNat_natCast, Nat.mul_one, RR, IA, PA, RA0, RA1, RA2, RA3, RA4, RA5, RA6, RA7, RA8, RA9, RA10, Nat.reduceAdd, Nat.reduceMul, Nat.reduceEqDiff, Nat.reduceLeDiff, Nat.reduceLT, Int.reduceToNat, Int.reduceLT, Int.reduceLE, Int.reduceEq, Int.reduceNeg, Int.reduceAdd, Int.reduceSub, Int.reduceMul, reduceIte] at hrun
    rw [of_call (L := fus4L) (n := 4) rfl (by rfl) hx] at hrun
    have k2 := cat ([91, 120, 58, 91, 121, 58] ++ s) (x) (by (try simp only [List.length_append, List.length_cons, List.length_nil]); omega)
    try simp only [List.cons_append, List.nil_append] at k2
    have hal : ([91, 120, 58, 91, 121, 58] ++ s ++ x : List UInt8).length ≤ 250 := by (try simp only [List.length_append, List.length_cons, List.length_nil]); omega
    by_cases h80 : (80 : Int) < (([91, 120, 58, 91, 121, 58] ++ s ++ x : List UInt8).length : Int)
    · try simp only [List.cons_append, List.nil_append, List.length_cons] at h80
      simp only [k1, fus4, k2, h80, TMA, Int.toNat_natCast, Nat.mul_one, RR, IA, PA, RA0, RA1, RA2, RA3, RA4, RA5, RA6, RA7, RA8, RA9, RA10, Nat.reduceAdd, Nat.reduceMul, Nat.reduceEqDiff, Nat.reduceLeDiff, Nat.reduceLT, Int.reduceToNat, Int.reduceLT, Int.reduceLE, Int.reduceEq, Int.reduceNeg, Int.reduceAdd, Int.reduceSub, Int.reduceMul, reduceIte] at hrun
      exact ⟨[82, 82, 97], (q + 1 + 1), hrun _ (out_one rfl rfl rfl (src_cl l _) rfl), by decide, by omega⟩
    · have hle : ([91, 120, 58, 91, 121, 58] ++ s ++ x : List UInt8).length ≤ 80 := by omega
      try simp only [List.cons_append, List.nil_append, List.length_cons] at h80
      simp only [k1, fus4, k2, h80, TMA, Int.toNat_natCast, Nat.mul_one, RR, IA, PA, RA0, RA1, RA2, RA3, RA4, RA5, RA6, RA7, RA8, RA9, RA10, Nat.reduceAdd, Nat.reduceMul, Nat.reduceEqDiff, Nat.reduceLeDiff, Nat.reduceLT, Int.reduceToNat, Int.reduceLT, Int.reduceLE, Int.reduceEq, Int.reduceNeg, Int.reduceAdd, Int.reduceSub, Int.reduceMul, reduceIte] at hrun
      exact ⟨[91, 120, 58, 91, 121, 58] ++ s ++ x, (q + 1 + 1), hrun _ (out_one rfl rfl rfl (src_cl l _) rfl), by omega, by omega⟩
  by_cases e5 : v = 5
  · subst e5
    have k1 := cat ([82, 82]) (s) (by (try simp only [List.length_append, List.length_cons, List.length_nil]); omega)
    try simp only [List.cons_append, List.nil_append] at k1
    have hal : ([82, 82] ++ s : List UInt8).length ≤ 250 := by (try simp only [List.length_append, List.length_cons, List.length_nil]); omega
    by_cases h80 : (80 : Int) < (([82, 82] ++ s : List UInt8).length : Int)
    · try simp only [List.cons_append, List.nil_append, List.length_cons] at h80
      simp only [k1, h80, TMA, Int.toNat_natCast, Nat.mul_one, RR, IA, PA, RA0, RA1, RA2, RA3, RA4, RA5, RA6, RA7, RA8, RA9, RA10, Nat.reduceAdd, Nat.reduceMul, Nat.reduceEqDiff, Nat.reduceLeDiff, Nat.reduceLT, Int.reduceToNat, Int.reduceLT, Int.reduceLE, Int.reduceEq, Int.reduceNeg, Int.reduceAdd, Int.reduceSub, Int.reduceMul, reduceIte] at hrun
      exact ⟨[82, 82, 97], (q + 1), hrun _ (out_one rfl rfl rfl (src_cl l _) rfl), by decide, by omega⟩
    · have hle : ([82, 82] ++ s : List UInt8).length ≤ 80 := by omega
      try simp only [List.cons_append, List.nil_append, List.length_cons] at h80
      simp only [k1, h80, TMA, Int.toNat_natCast, Nat.mul_one, RR, IA, PA, RA0, RA1, RA2, RA3, RA4, RA5, RA6, RA7, RA8, RA9, RA10, Nat.reduceAdd, Nat.reduceMul, Nat.reduceEqDiff, Nat.reduceLeDiff, Nat.reduceLT, Int.reduceToNat, Int.reduceLT, Int.reduceLE, Int.reduceEq, Int.reduceNeg, Int.reduceAdd, Int.reduceSub, Int.reduceMul, reduceIte] at hrun
      exact ⟨[82, 82] ++ s, (q + 1), hrun _ (out_one rfl rfl rfl (src_cl l _) rfl), by omega, by omega⟩
  by_cases h80 : (80 : Int) < ((s : List UInt8).length : Int)
  · try simp only [List.cons_append, List.nil_append, List.length_cons] at h80
    simp only [e0, e1, e2, e3, e4, e5, h80, TMA, Int.toNat_natCast, Nat.mul_one, RR, IA, PA, RA0, RA1, RA2, RA3, RA4, RA5, RA6, RA7, RA8, RA9, RA10, Nat.reduceAdd, Nat.reduceMul, Nat.reduceEqDiff, Nat.reduceLeDiff, Nat.reduceLT, Int.reduceToNat, Int.reduceLT, Int.reduceLE, Int.reduceEq, Int.reduceNeg, Int.reduceAdd, Int.reduceSub, Int.reduceMul, reduceIte] at hrun
    exact ⟨[82, 82, 97], (q + 1), hrun _ (out_one rfl rfl rfl (src_cl l _) rfl), by decide, by omega⟩
  · have hle : (s : List UInt8).length ≤ 80 := by omega
    try simp only [List.cons_append, List.nil_append, List.length_cons] at h80
    simp only [e0, e1, e2, e3, e4, e5, h80, TMA, Int.toNat_natCast, Nat.mul_one, RR, IA, PA, RA0, RA1, RA2, RA3, RA4, RA5, RA6, RA7, RA8, RA9, RA10, Nat.reduceAdd, Nat.reduceMul, Nat.reduceEqDiff, Nat.reduceLeDiff, Nat.reduceLT, Int.reduceToNat, Int.reduceLT, Int.reduceLE, Int.reduceEq, Int.reduceNeg, Int.reduceAdd, Int.reduceSub, Int.reduceMul, reduceIte] at hrun
    exact ⟨s, (q + 1), hrun _ (out_one rfl rfl rfl (src_cl l _) rfl), by omega, by omega⟩
theorem T_drawCount : TT 31 = some (Tryd.f31, bodyOf Tryd.f31) := by kernel_rfl
theorem bytes_cl (l : List UInt8) : closedL [bytesV l] = true := by
  simp only [bytesV_eq, closedL, closed, cbs_closed, Bool.and_self]
theorem take2000 (l : List UInt8) : (l.take 2000).length ≤ 2000 := by rw [List.length_take]; omega
theorem drawCount_ev (l : List UInt8) : ∃ s, EE 31 [bytesV l] = some (S s) ∧ s.length ≤ 300 := by
  have hrun : ∀ y, (evC II EE (withOpt (opt 31) pf) MX (strip (bodyOf Tryd.f31)) (St.init [bytesV l])).bind (resK II Tryd.f31.results.toList) = some y → EE 31 [bytesV l] = some y := fun y h => EE_plain T_drawCount (by decide) (Nat.le_of_ble_eq_true rfl) (bytes_cl l) h
  rw [show opt 31 = [] from rfl] at hrun
  simp only [bodyOf, Tryd.f31, SA] at hrun
  obtain ⟨s, q, hs, sl, hq⟩ := some10_ev (l.take 2000) (take2000 l) 0 (by decide)
  simp only [TMA, Int.toNat_natCast, Nat.mul_one, RR, IA, PA, RA0, RA1, RA2, RA3, RA4, RA5, RA6, RA7, RA8, RA9, RA10, Nat.reduceAdd, Nat.reduceMul, Nat.reduceEqDiff, Nat.reduceLeDiff, Nat.reduceLT, Int.reduceToNat, Int.reduceLT, Int.reduceLE, Int.reduceEq, Int.reduceNeg, Int.reduceAdd, Int.reduceSub, Int.reduceMul, reduceIte] at hrun
  rw [call_new_v (withOpt_nil_lo (by decide)) (bytes_cl l) (open_ev l) (src_cl _ _)] at hrun
  simp only [TMA, Int.toNat_natCast, Nat.mul_one, RR, IA, PA, RA0, RA1, RA2, RA3, RA4, RA5, RA6, RA7, RA8, RA9, RA10, Nat.reduceAdd, Nat.reduceMul, Nat.reduceEqDiff, Nat.reduceLeDiff, Nat.reduceLT, Int.reduceToNat, Int.reduceLT, Int.reduceLE, Int.reduceEq, Int.reduceNeg, Int.reduceAdd, Int.reduceSub, Int.reduceMul, reduceIte] at hrun
  rw [some10_call (by simp only [upd, if_true]) hs] at hrun
  simp only [TMA, Int.toNat_natCast, Nat.mul_one, RR, IA, PA, RA0, RA1, RA2, RA3, RA4, RA5, RA6, RA7, RA8, RA9, RA10, Nat.reduceAdd, Nat.reduceMul, Nat.reduceEqDiff, Nat.reduceLeDiff, Nat.reduceLT, Int.reduceToNat, Int.reduceLT, Int.reduceLE, Int.reduceEq, Int.reduceNeg, Int.reduceAdd, Int.reduceSub, Int.reduceMul, reduceIte] at hrun
  exact ⟨s, hrun _ rfl, sl⟩
end
end Go.Proofs.YtegbkihgnofkfaaDoor.Ev

/-
Laws: lists that are the same, the sum of a list.
-/
namespace Go.Proofs.YtegbkihgnofkfaaDoor.Ev
section
set_option linter.unusedVariables false
set_option linter.unusedSimpArgs false
open Go Go.RowKit
set_option linter.unusedVariables false
set_option linter.unusedSimpArgs false
theorem T_faTotal : TT 35 = some (Tryd.f35, bodyOf Tryd.f35) := by kernel_rfl
theorem T_faSame : TT 23 = some (Tryd.f23, bodyOf Tryd.f23) := by kernel_rfl
theorem sum_nnD : ∀ {l : List Int}, (∀ x ∈ l, 0 ≤ x) → 0 ≤ l.sum
  | [], _ => by simp
  | y :: l, h => by
    have h1 := sum_nnD (l := l) fun x hx => h x (List.mem_cons_of_mem _ hx)
    have hy := h y List.mem_cons_self
    rw [List.sum_cons]
    omega
theorem faTotal_loop (x : Bool) (L : List Int) (hL : L.length ≤ 1000000) : ∀ (r : List Int) (i n : Nat) (acc : Int) (e : Nat → AV) (σ : Sto) (nx : Nat) (q : Option (Ex × St)),
    L.drop i = r → r.length < n → (∀ y ∈ r, 0 ≤ y) → 0 ≤ acc → acc + r.sum ≤ 1000000000 → roundsE (evC II EE (withOpt [] pf) MX (bodyL Tryd.f35 0)) n ⟨e, σ, nx⟩ = q → e 3 = N acc → e 6 = .s x L.length (ints L) → e 7 = N L.length → e 8 = N i →
    ∃ e' σ' nx', q = some (.exit 0, ⟨e', σ', nx'⟩) ∧ e' 3 = N (acc + r.sum)
  | [], i, n, acc, e, σ, nx, q, hr, hn, hy, ha, hs, hq, h3, h6, h7, h8 => by
    obtain ⟨n, rfl⟩ : ∃ k, n = k + 1 := ⟨n - 1, by simp only [List.length_nil] at hn; omega⟩
    rw [rounds_rd] at hq
    have hge : L.length ≤ i := by
      have := congrArg List.length hr
      simp only [List.length_drop, List.length_nil] at this
      omega
    have hc : ¬ ((i : Int) < (L.length : Int)) := by omega
    simp only [bodyL, bodyOf, Tryd.f35, SA, loops, List.nil_append, List.append_nil, List.cons_append, List.getD_cons_zero, List.getD_cons_succ] at hq
    simp only [h7, h8, hc, RR, IA, PA, RA0, RA1, RA2, RA3, RA4, RA5, RA6, RA7, RA8, RA9, RA10, Nat.reduceAdd, Nat.reduceMul, Nat.reduceEqDiff, Nat.reduceLeDiff, Nat.reduceLT, Int.reduceToNat, Int.reduceLT, Int.reduceLE, Int.reduceEq, Int.reduceNeg, Int.reduceAdd, Int.reduceSub, Int.reduceMul, reduceIte] at hq
    refine ⟨_, _, _, hq.symm, ?_⟩
    rw [List.sum_nil, Int.add_zero]
    exact h3
  | y :: r, i, n, acc, e, σ, nx, q, hr, hn, hy, ha, hs, hq, h3, h6, h7, h8 => by
    obtain ⟨n, rfl⟩ : ∃ k, n = k + 1 := ⟨n - 1, by simp only [List.length_cons] at hn; omega⟩
    rw [rounds_rd] at hq
    have hlt : i < L.length := by
      have := congrArg List.length hr
      simp only [List.length_drop, List.length_cons] at this
      omega
    have hc : ((i : Int) < (L.length : Int)) := by omega
    have hz : (0 : Int) ≤ (i : Int) := by omega
    have hw : IntKind.i64.wrap ((i : Int) + 1) = ((i + 1 : Nat) : Int) := by rw [wrap64 (by omega) (by omega)]; rfl
    have hy0 := hy y List.mem_cons_self
    rw [List.sum_cons] at hs
    have hrs := sum_nnD (l := r) fun z hz => hy z (List.mem_cons_of_mem _ hz)
    have hwa : IntKind.i64.wrap (acc + y) = acc + y := wrap64 (by omega) (by omega)
    have hd : ((ints L).drop i).head? = some (N y) := by
      rw [ints_drop, hr]
      rfl
    have hl : (ints L).length = L.length := ints_len L
    simp only [bodyL, bodyOf, Tryd.f35, SA, loops, List.nil_append, List.append_nil, List.cons_append, List.getD_cons_zero, List.getD_cons_succ] at hq
    simp only [h3, h6, h7, h8, hc, hz, hw, hwa, hd, hl, Int.toNat_natCast, Nat.mul_one, RR, IA, PA, RA0, RA1, RA2, RA3, RA4, RA5, RA6, RA7, RA8, RA9, RA10, Nat.reduceAdd, Nat.reduceMul, Nat.reduceEqDiff, Nat.reduceLeDiff, Nat.reduceLT, Int.reduceToNat, Int.reduceLT, Int.reduceLE, Int.reduceEq, Int.reduceNeg, Int.reduceAdd, Int.reduceSub, Int.reduceMul, reduceIte] at hq
    have hr2 : L.drop (i + 1) = r := by
      rw [← List.drop_drop, hr]
      rfl
    obtain ⟨e', σ', nx', g1, g2⟩ := faTotal_loop x L hL r (i + 1) n (acc + y) _ _ _ q hr2 (by simp only [List.length_cons] at hn; omega) (fun z hz => hy z (List.mem_cons_of_mem _ hz)) (by omega) (by omega) hq rfl h6 h7 rfl
    exact ⟨e', σ', nx', g1, by rw [g2, List.sum_cons, Int.add_assoc]⟩
theorem faTotal_ev (x : Bool) (L : List Int) (hL : L.length ≤ 1000000) (h0 : ∀ y ∈ L, 0 ≤ y) (hs : L.sum ≤ 1000000000) : EE 35 [.s x L.length (ints L)] = some (N L.sum) := by
  refine EE_plain T_faTotal (by decide) (Nat.le_of_ble_eq_true rfl) (by simp only [closedL, closed, ints_closed, Bool.and_self]) ?_
  rw [show opt 35 = [] from rfl]
  simp only [bodyOf, Tryd.f35, SA]
  simp only [RR, IA, PA, RA0, RA1, RA2, RA3, RA4, RA5, RA6, RA7, RA8, RA9, RA10, Nat.reduceAdd, Nat.reduceMul, Nat.reduceEqDiff, Nat.reduceLeDiff, Nat.reduceLT, Int.reduceToNat, Int.reduceLT, Int.reduceLE, Int.reduceEq, Int.reduceNeg, Int.reduceAdd, Int.reduceSub, Int.reduceMul, reduceIte]
  generalize hq : roundsE _ _ _ = q
  obtain ⟨e', σ', nx', rfl, h3⟩ := faTotal_loop x L hL L 0 MX 0 _ _ _ q rfl (by
    have : (1000000 : Nat) < MX := by decide
    omega) h0 (Int.le_refl _) (by omega) hq rfl rfl rfl rfl
  rw [Int.zero_add] at h3
  simp only [h3, RR, IA, PA, RA0, RA1, RA2, RA3, RA4, RA5, RA6, RA7, RA8, RA9, RA10, Nat.reduceAdd, Nat.reduceMul, Nat.reduceEqDiff, Nat.reduceLeDiff, Nat.reduceLT, Int.reduceToNat, Int.reduceLT, Int.reduceLE, Int.reduceEq, Int.reduceNeg, Int.reduceAdd, Int.reduceSub, Int.reduceMul, reduceIte]
theorem faSame_loop (x y : Bool) (L : List Int) (hL : L.length ≤ 1000000) : ∀ (r : List Int) (i n : Nat) (e : Nat → AV) (σ : Sto) (nx : Nat) (q : Option (Ex × St)),
    L.drop i = r → r.length < n → roundsE (evC II EE (withOpt [] pf) MX (bodyL Tryd.f23 0)) n ⟨e, σ, nx⟩ = q → e 0 = .s x L.length (ints L) → e 1 = .s y L.length (ints L) → e 10 = N L.length → e 11 = N i →
    ∃ e' σ' nx', q = some (.exit 0, ⟨e', σ', nx'⟩) ∧ e' 0 = .s x L.length (ints L) ∧ e' 1 = .s y L.length (ints L)
  | [], i, n, e, σ, nx, q, hr, hn, hq, h0, h1, h10, h11 => by
    obtain ⟨n, rfl⟩ : ∃ k, n = k + 1 := ⟨n - 1, by simp only [List.length_nil] at hn; omega⟩
    rw [rounds_rd] at hq
    have hge : L.length ≤ i := by
      have := congrArg List.length hr
      simp only [List.length_drop, List.length_nil] at this
      omega
    have hc : ¬ ((i : Int) < (L.length : Int)) := by omega
    simp only [bodyL, bodyOf, Tryd.f23, SA, loops, List.nil_append, List.append_nil, List.cons_append, List.getD_cons_zero, List.getD_cons_succ] at hq
    simp only [h10, h11, hc, RR, IA, PA, RA0, RA1, RA2, RA3, RA4, RA5, RA6, RA7, RA8, RA9, RA10, Nat.reduceAdd, Nat.reduceMul, Nat.reduceEqDiff, Nat.reduceLeDiff, Nat.reduceLT, Int.reduceToNat, Int.reduceLT, Int.reduceLE, Int.reduceEq, Int.reduceNeg, Int.reduceAdd, Int.reduceSub, Int.reduceMul, reduceIte] at hq
    exact ⟨_, _, _, hq.symm, h0, h1⟩
  | z :: r, i, n, e, σ, nx, q, hr, hn, hq, h0, h1, h10, h11 => by
    obtain ⟨n, rfl⟩ : ∃ k, n = k + 1 := ⟨n - 1, by simp only [List.length_cons] at hn; omega⟩
    rw [rounds_rd] at hq
    have hlt : i < L.length := by
      have := congrArg List.length hr
      simp only [List.length_drop, List.length_cons] at this
      omega
    have hc : ((i : Int) < (L.length : Int)) := by omega
    have hz : (0 : Int) ≤ (i : Int) := by omega
    have hw : IntKind.i64.wrap ((i : Int) + 1) = ((i + 1 : Nat) : Int) := by rw [wrap64 (by omega) (by omega)]; rfl
    have hd : ((ints L).drop i).head? = some (N z) := by
      rw [ints_drop, hr]
      rfl
    have hl : (ints L).length = L.length := ints_len L
    have hzz : decide (z = z) = true := by simp
    simp only [bodyL, bodyOf, Tryd.f23, SA, loops, List.nil_append, List.append_nil, List.cons_append, List.getD_cons_zero, List.getD_cons_succ] at hq
    simp only [h0, h1, h10, h11, hc, hz, hw, hd, hl, hzz, Int.toNat_natCast, Nat.mul_one, RR, IA, PA, RA0, RA1, RA2, RA3, RA4, RA5, RA6, RA7, RA8, RA9, RA10, Nat.reduceAdd, Nat.reduceMul, Nat.reduceEqDiff, Nat.reduceLeDiff, Nat.reduceLT, Int.reduceToNat, Int.reduceLT, Int.reduceLE, Int.reduceEq, Int.reduceNeg, Int.reduceAdd, Int.reduceSub, Int.reduceMul, reduceIte] at hq
    have hr2 : L.drop (i + 1) = r := by
      rw [← List.drop_drop, hr]
      rfl
    exact faSame_loop x y L hL r (i + 1) n _ _ _ q hr2 (by simp only [List.length_cons] at hn; omega) hq h0 h1 h10 rfl
theorem faSame_ev (x y : Bool) (L : List Int) (hL : L.length ≤ 1000000) : EE 23 [.s x L.length (ints L), .s y L.length (ints L)] = some (B true) := by
  refine EE_plain T_faSame (by decide) (Nat.le_of_ble_eq_true rfl) (by simp only [closedL, closed, ints_closed, Bool.and_self]) ?_
  rw [show opt 23 = [] from rfl]
  simp only [bodyOf, Tryd.f23, SA]
  have hmin : mx2 false (N L.length) (N L.length) = some (N L.length) := by simp [mx2]
  simp only [hmin, RR, IA, PA, RA0, RA1, RA2, RA3, RA4, RA5, RA6, RA7, RA8, RA9, RA10, Nat.reduceAdd, Nat.reduceMul, Nat.reduceEqDiff, Nat.reduceLeDiff, Nat.reduceLT, Int.reduceToNat, Int.reduceLT, Int.reduceLE, Int.reduceEq, Int.reduceNeg, Int.reduceAdd, Int.reduceSub, Int.reduceMul, reduceIte]
  generalize hq : roundsE _ _ _ = q
  obtain ⟨e', σ', nx', rfl, h0, h1⟩ := faSame_loop x y L hL L 0 MX _ _ _ q rfl (by
    have : (1000000 : Nat) < MX := by decide
    omega) hq rfl rfl rfl rfl
  have hee : decide ((L.length : Int) = (L.length : Int)) = true := by simp
  simp only [h0, h1, hee, RR, IA, PA, RA0, RA1, RA2, RA3, RA4, RA5, RA6, RA7, RA8, RA9, RA10, Nat.reduceAdd, Nat.reduceMul, Nat.reduceEqDiff, Nat.reduceLeDiff, Nat.reduceLT, Int.reduceToNat, Int.reduceLT, Int.reduceLE, Int.reduceEq, Int.reduceNeg, Int.reduceAdd, Int.reduceSub, Int.reduceMul, reduceIte]
end
end Go.Proofs.YtegbkihgnofkfaaDoor.Ev
