/-
Texts Yg to Yg of the work.
-/
import Derived.Test.YtegbkihgnofkfaaDoorZYe
import Derived.Test.YtegbkihgnofkfaaDoorZYf
/-
Simplifying: a term put in place of a variable: the reference.
-/
namespace Go.Proofs.YtegbkihgnofkfaaDoor.Ev
section
set_option linter.unusedVariables false
set_option linter.unusedSimpArgs false
open Go Go.RowKit
set_option linter.unusedVariables false
set_option linter.unusedSimpArgs false
set_option maxHeartbeats 16000000 in
theorem l5Replace_ev {cs : List AV} {t : T} (h : IsN cs t) (v : UInt8) (hv : v ≠ 0) {cu : List AV} {u : T} (hu : IsN cu u) (hwu : WF u) : WF t → ∃ cs', EE 159 [.a cs, U v, .a cu] = some (.t [.a cs', B (rp v u t).2]) ∧ IsN cs' (rp v u t).1 := by
  have ul := hu.len
  have ut := hu.tk
  have uc := hu.closed
  have uf := hu.leaf
  induction h with
  | dig ex c =>
    intro hw
    refine ⟨[U 48, U c, .s true 0 []], ?_, .dig true c⟩
    refine EE_few 3 T_l5Replace (by decide) (Nat.le_of_ble_eq_true rfl) (rep_cl (.dig ex c) hu v) ?_
    rw [show opt 159 = [] from rfl]
    simp only [bodyOf, Tryd.f159, SA]
    simp only [ul, ut, uc, uf, q48, rp, rounds_rd, TMA, RR, IA, PA, RA0, RA1, RA2, RA3, RA4, RA5, RA6, RA7, RA8, RA9, RA10, Nat.reduceAdd, Nat.reduceMul, Nat.reduceEqDiff, Nat.reduceLeDiff, Nat.reduceLT, Int.reduceToNat, Int.reduceLT, Int.reduceLE, Int.reduceEq, Int.reduceNeg, Int.reduceAdd, Int.reduceSub, Int.reduceMul, reduceIte]
  | var ex c =>
    intro hw
    by_cases hc : c = v
    · subst hc
      refine ⟨cu, ?_, by rw [rp, if_pos rfl]; exact hu⟩
      rw [rp, if_pos rfl]
      refine EE_few 3 T_l5Replace (by decide) (Nat.le_of_ble_eq_true rfl) (rep_cl (.var ex c) hu c) ?_
      rw [show opt 159 = [] from rfl]
      simp only [bodyOf, Tryd.f159, SA]
      simp only [ul, ut, uc, uf, q97, give_nb uc, rounds_rd, TMA, RR, IA, PA, RA0, RA1, RA2, RA3, RA4, RA5, RA6, RA7, RA8, RA9, RA10, Nat.reduceAdd, Nat.reduceMul, Nat.reduceEqDiff, Nat.reduceLeDiff, Nat.reduceLT, Int.reduceToNat, Int.reduceLT, Int.reduceLE, Int.reduceEq, Int.reduceNeg, Int.reduceAdd, Int.reduceSub, Int.reduceMul, reduceIte]
    · have := ne_int hc
      refine ⟨[U 97, U c, .s true 0 []], ?_, by rw [rp, if_neg hc]; exact .var true c⟩
      rw [rp, if_neg hc]
      refine EE_few 3 T_l5Replace (by decide) (Nat.le_of_ble_eq_true rfl) (rep_cl (.var ex c) hu v) ?_
      rw [show opt 159 = [] from rfl]
      simp only [bodyOf, Tryd.f159, SA]
      simp only [ul, ut, uc, uf, q97, this, rp, rounds_rd, TMA, RR, IA, PA, RA0, RA1, RA2, RA3, RA4, RA5, RA6, RA7, RA8, RA9, RA10, Nat.reduceAdd, Nat.reduceMul, Nat.reduceEqDiff, Nat.reduceLeDiff, Nat.reduceLT, Int.reduceToNat, Int.reduceLT, Int.reduceLE, Int.reduceEq, Int.reduceNeg, Int.reduceAdd, Int.reduceSub, Int.reduceMul, reduceIte]
  | @one ex s cx x h ih =>
    intro hw
    have hf := l5Free_ev h v hv hw.2
    have n97 := one_97 hw.1
    by_cases hx : 0 < fr v x
    · obtain ⟨cr, hr, hir⟩ := ih hw.2
      rw [rp, if_pos hx]
      have rl := hir.len
      have rt := hir.tk
      have rc := hir.closed
      have rf := hir.leaf
      have hres : IsN [U s, U 0, .s false 1 cr] (.one s (rp v u x).1) := .one false s hir
      show ∃ cs', _ = some (AV.t [.a cs', B (rp v u x).2]) ∧ IsN cs' (.one s (rp v u x).1)
      generalize (rp v u x).2 = q at hr ⊢
      have hpk : ∀ σ, pureK σ (.t [.a cr, B q]) = some (.t [.a cr, B q], σ) := fun σ => pure_nb2 rc
      refine ⟨[U s, U 0, .s false 1 cr], ?_, hres⟩
      refine EE_few 3 T_l5Replace (by decide) (Nat.le_of_ble_eq_true rfl) (rep_cl (.one ex s h) hu v) ?_
      rw [show opt 159 = [] from rfl]
      simp only [bodyOf, Tryd.f159, SA]
      cases q
      all_goals
        simp only [ul, ut, uc, uf, h.len, h.tk, h.closed, h.leaf, n97, hf, hx, hr, hpk, rl, rt, rc, rf, rounds_rd, TMA, RR, IA, PA, RA0, RA1, RA2, RA3, RA4, RA5, RA6, RA7, RA8, RA9, RA10, Nat.reduceAdd, Nat.reduceMul, Nat.reduceEqDiff, Nat.reduceLeDiff, Nat.reduceLT, Int.reduceToNat, Int.reduceLT, Int.reduceLE, Int.reduceEq, Int.reduceNeg, Int.reduceAdd, Int.reduceSub, Int.reduceMul, reduceIte]
        rw [app_s (by decide) rl rf rfl (by omega) (by omega) (.inr rfl)]
        simp only [ul, ut, uc, uf, h.len, h.tk, h.closed, h.leaf, rl, rt, rc, rf, rounds_rd, TMA, RR, IA, PA, RA0, RA1, RA2, RA3, RA4, RA5, RA6, RA7, RA8, RA9, RA10, Nat.reduceAdd, Nat.reduceMul, Nat.reduceEqDiff, Nat.reduceLeDiff, Nat.reduceLT, Int.reduceToNat, Int.reduceLT, Int.reduceLE, Int.reduceEq, Int.reduceNeg, Int.reduceAdd, Int.reduceSub, Int.reduceMul, reduceIte]
        exact (give_node (cs := cr) (s := s) (n := 0) (by rfl) (by omega) rc).trans (by rw [Nat.one_mul, rt])
    · rw [rp, if_neg hx]
      refine ⟨[U s, U 0, .s false 1 cx], ?_, .one false s h⟩
      refine EE_few 3 T_l5Replace (by decide) (Nat.le_of_ble_eq_true rfl) (rep_cl (.one ex s h) hu v) ?_
      rw [show opt 159 = [] from rfl]
      simp only [bodyOf, Tryd.f159, SA]
      simp only [ul, ut, uc, uf, h.len, h.tk, h.closed, h.leaf, n97, hf, hx, rounds_rd, TMA, RR, IA, PA, RA0, RA1, RA2, RA3, RA4, RA5, RA6, RA7, RA8, RA9, RA10, Nat.reduceAdd, Nat.reduceMul, Nat.reduceEqDiff, Nat.reduceLeDiff, Nat.reduceLT, Int.reduceToNat, Int.reduceLT, Int.reduceLE, Int.reduceEq, Int.reduceNeg, Int.reduceAdd, Int.reduceSub, Int.reduceMul, reduceIte]
      rw [app_s (by decide) h.len h.leaf rfl (by omega) (by omega) (.inr rfl)]
      simp only [ul, ut, uc, uf, h.len, h.tk, h.closed, h.leaf, rounds_rd, TMA, RR, IA, PA, RA0, RA1, RA2, RA3, RA4, RA5, RA6, RA7, RA8, RA9, RA10, Nat.reduceAdd, Nat.reduceMul, Nat.reduceEqDiff, Nat.reduceLeDiff, Nat.reduceLT, Int.reduceToNat, Int.reduceLT, Int.reduceLE, Int.reduceEq, Int.reduceNeg, Int.reduceAdd, Int.reduceSub, Int.reduceMul, reduceIte]
      exact (give_node (cs := cx) (s := s) (n := 0) (by rfl) (by rw [h.len]; omega) h.closed).trans (by rw [Nat.one_mul, h.tk])
  | @two ex s cx cy x y h k ih ik =>
    intro hw
    have hf := l5Free_ev h v hv hw.2.1
    have hg := l5Free_ev k v hv hw.2.2
    have n97 := two_97 hw.1
    have nz := z0 hv
    have nzi := z0i hv
    obtain ⟨cr, hr, hir⟩ := ih hw.2.1
    obtain ⟨dr, hs, jir⟩ := ik hw.2.2
    have rl := hir.len
    have rt := hir.tk
    have rc := hir.closed
    have rf := hir.leaf
    have sl := jir.len
    have st := jir.tk
    have sc := jir.closed
    have sf := jir.leaf
    rw [rp]
    generalize hP : rp v u x = P at hr hir
    generalize hQ : rp v u y = Q at hs jir
    obtain ⟨x', q⟩ := P
    obtain ⟨y', q2⟩ := Q
    simp only at hr hir hs jir ⊢
    have hpk : ∀ σ, pureK σ (.t [.a cr, B q]) = some (.t [.a cr, B q], σ) := fun σ => pure_nb2 rc
    have hpk2 : ∀ σ, pureK σ (.t [.a dr, B q2]) = some (.t [.a dr, B q2], σ) := fun σ => pure_nb2 sc
    by_cases hx : 0 < fr v x <;> by_cases hy : 0 < fr v y <;> simp only [hx, hy, if_true, if_false, Bool.true_and, Bool.and_true]
    · refine ⟨[U s, U 0, .s false 2 (cr ++ dr)], ?_, .two false s hir jir⟩
      refine EE_few 3 T_l5Replace (by decide) (Nat.le_of_ble_eq_true rfl) (rep_cl (.two ex s h k) hu v) ?_
      rw [show opt 159 = [] from rfl]
      simp only [bodyOf, Tryd.f159, SA]
      cases q <;> cases q2
      all_goals
        simp only [ul, ut, uc, uf, h.len, h.tk, h.tk2, h.dr2, h.len2 k, h.closed, h.leaf, k.len, k.tk, k.closed, k.leaf, n97, nz, nzi, hf, hg, hx, hy, hr, hpk, rl, rt, rc, rf, rounds_rd, TMA, RR, IA, PA, RA0, RA1, RA2, RA3, RA4, RA5, RA6, RA7, RA8, RA9, RA10, Nat.reduceAdd, Nat.reduceMul, Nat.reduceEqDiff, Nat.reduceLeDiff, Nat.reduceLT, Int.reduceToNat, Int.reduceLT, Int.reduceLE, Int.reduceEq, Int.reduceNeg, Int.reduceAdd, Int.reduceSub, Int.reduceMul, reduceIte]
        rw [app_s (by decide) rl rf rfl (by omega) (by omega) (.inr rfl)]
        simp only [ul, ut, uc, uf, h.len, h.tk, h.tk2, h.dr2, h.len2 k, h.closed, h.leaf, k.len, k.tk, k.closed, k.leaf, n97, nz, nzi, hf, hg, hx, hy, hs, hpk2, sl, st, sc, sf, hr, hpk, rl, rt, rc, rf, rounds_rd, TMA, RR, IA, PA, RA0, RA1, RA2, RA3, RA4, RA5, RA6, RA7, RA8, RA9, RA10, Nat.reduceAdd, Nat.reduceMul, Nat.reduceEqDiff, Nat.reduceLeDiff, Nat.reduceLT, Int.reduceToNat, Int.reduceLT, Int.reduceLE, Int.reduceEq, Int.reduceNeg, Int.reduceAdd, Int.reduceSub, Int.reduceMul, reduceIte]
        rw [app_w (by rfl) (by decide) sl sf (by simpa using rl) (by omega) (by omega) (by decide)]
        simp only [ul, ut, uc, uf, h.len, h.tk, h.tk2, h.dr2, h.len2 k, h.closed, h.leaf, k.len, k.tk, k.closed, k.leaf, n97, nz, nzi, hf, hg, hx, hy, hs, hpk2, sl, st, sc, sf, hr, hpk, rl, rt, rc, rf, rounds_rd, TMA, RR, IA, PA, RA0, RA1, RA2, RA3, RA4, RA5, RA6, RA7, RA8, RA9, RA10, Nat.reduceAdd, Nat.reduceMul, Nat.reduceEqDiff, Nat.reduceLeDiff, Nat.reduceLT, Int.reduceToNat, Int.reduceLT, Int.reduceLE, Int.reduceEq, Int.reduceNeg, Int.reduceAdd, Int.reduceSub, Int.reduceMul, reduceIte]
        exact (give_node (cs := cr ++ dr) (s := s) (n := 0) (by rfl) (by rw [hir.len2 jir]; omega) (by rw [closedL_append, hir.closed, jir.closed]; rfl)).trans (by rw [List.take_of_length_le (by rw [hir.len2 jir]; omega)])
    · refine ⟨[U s, U 0, .s false 2 (cr ++ cy)], ?_, .two false s hir k⟩
      refine EE_few 3 T_l5Replace (by decide) (Nat.le_of_ble_eq_true rfl) (rep_cl (.two ex s h k) hu v) ?_
      rw [show opt 159 = [] from rfl]
      simp only [bodyOf, Tryd.f159, SA]
      cases q
      all_goals
        simp only [ul, ut, uc, uf, h.len, h.tk, h.tk2, h.dr2, h.len2 k, h.closed, h.leaf, k.len, k.tk, k.closed, k.leaf, n97, nz, nzi, hf, hg, hx, hy, hr, hpk, rl, rt, rc, rf, rounds_rd, TMA, RR, IA, PA, RA0, RA1, RA2, RA3, RA4, RA5, RA6, RA7, RA8, RA9, RA10, Nat.reduceAdd, Nat.reduceMul, Nat.reduceEqDiff, Nat.reduceLeDiff, Nat.reduceLT, Int.reduceToNat, Int.reduceLT, Int.reduceLE, Int.reduceEq, Int.reduceNeg, Int.reduceAdd, Int.reduceSub, Int.reduceMul, reduceIte]
        rw [app_s (by decide) rl rf rfl (by omega) (by omega) (.inr rfl)]
        simp only [ul, ut, uc, uf, h.len, h.tk, h.tk2, h.dr2, h.len2 k, h.closed, h.leaf, k.len, k.tk, k.closed, k.leaf, n97, nz, nzi, hf, hg, hx, hy, hr, hpk, rl, rt, rc, rf, rounds_rd, TMA, RR, IA, PA, RA0, RA1, RA2, RA3, RA4, RA5, RA6, RA7, RA8, RA9, RA10, Nat.reduceAdd, Nat.reduceMul, Nat.reduceEqDiff, Nat.reduceLeDiff, Nat.reduceLT, Int.reduceToNat, Int.reduceLT, Int.reduceLE, Int.reduceEq, Int.reduceNeg, Int.reduceAdd, Int.reduceSub, Int.reduceMul, reduceIte]
        rw [app_w (by rfl) (by decide) k.len k.leaf (by simpa using rl) (by omega) (by omega) (by decide)]
        simp only [ul, ut, uc, uf, h.len, h.tk, h.tk2, h.dr2, h.len2 k, h.closed, h.leaf, k.len, k.tk, k.closed, k.leaf, n97, nz, nzi, hf, hg, hx, hy, hr, hpk, rl, rt, rc, rf, rounds_rd, TMA, RR, IA, PA, RA0, RA1, RA2, RA3, RA4, RA5, RA6, RA7, RA8, RA9, RA10, Nat.reduceAdd, Nat.reduceMul, Nat.reduceEqDiff, Nat.reduceLeDiff, Nat.reduceLT, Int.reduceToNat, Int.reduceLT, Int.reduceLE, Int.reduceEq, Int.reduceNeg, Int.reduceAdd, Int.reduceSub, Int.reduceMul, reduceIte]
        exact (give_node (cs := cr ++ cy) (s := s) (n := 0) (by rfl) (by rw [hir.len2 k]; omega) (by rw [closedL_append, hir.closed, k.closed]; rfl)).trans (by rw [List.take_of_length_le (by rw [hir.len2 k]; omega)])
    · refine ⟨[U s, U 0, .s false 2 (cx ++ dr)], ?_, .two false s h jir⟩
      refine EE_few 3 T_l5Replace (by decide) (Nat.le_of_ble_eq_true rfl) (rep_cl (.two ex s h k) hu v) ?_
      rw [show opt 159 = [] from rfl]
      simp only [bodyOf, Tryd.f159, SA]
      cases q2
      all_goals
        simp only [ul, ut, uc, uf, h.len, h.tk, h.tk2, h.dr2, h.len2 k, h.closed, h.leaf, k.len, k.tk, k.closed, k.leaf, n97, nz, nzi, hf, hg, hx, hy, rounds_rd, TMA, RR, IA, PA, RA0, RA1, RA2, RA3, RA4, RA5, RA6, RA7, RA8, RA9, RA10, Nat.reduceAdd, Nat.reduceMul, Nat.reduceEqDiff, Nat.reduceLeDiff, Nat.reduceLT, Int.reduceToNat, Int.reduceLT, Int.reduceLE, Int.reduceEq, Int.reduceNeg, Int.reduceAdd, Int.reduceSub, Int.reduceMul, reduceIte]
        rw [app_s (by decide) h.len h.leaf rfl (by omega) (by omega) (.inr rfl)]
        simp only [ul, ut, uc, uf, h.len, h.tk, h.tk2, h.dr2, h.len2 k, h.closed, h.leaf, k.len, k.tk, k.closed, k.leaf, n97, nz, nzi, hf, hg, hx, hy, hs, hpk2, sl, st, sc, sf, rounds_rd, TMA, RR, IA, PA, RA0, RA1, RA2, RA3, RA4, RA5, RA6, RA7, RA8, RA9, RA10, Nat.reduceAdd, Nat.reduceMul, Nat.reduceEqDiff, Nat.reduceLeDiff, Nat.reduceLT, Int.reduceToNat, Int.reduceLT, Int.reduceLE, Int.reduceEq, Int.reduceNeg, Int.reduceAdd, Int.reduceSub, Int.reduceMul, reduceIte]
        rw [app_w (by rfl) (by decide) sl sf (by simpa using h.len) (by omega) (by omega) (by decide)]
        simp only [ul, ut, uc, uf, h.len, h.tk, h.tk2, h.dr2, h.len2 k, h.closed, h.leaf, k.len, k.tk, k.closed, k.leaf, n97, nz, nzi, hf, hg, hx, hy, hs, hpk2, sl, st, sc, sf, rounds_rd, TMA, RR, IA, PA, RA0, RA1, RA2, RA3, RA4, RA5, RA6, RA7, RA8, RA9, RA10, Nat.reduceAdd, Nat.reduceMul, Nat.reduceEqDiff, Nat.reduceLeDiff, Nat.reduceLT, Int.reduceToNat, Int.reduceLT, Int.reduceLE, Int.reduceEq, Int.reduceNeg, Int.reduceAdd, Int.reduceSub, Int.reduceMul, reduceIte]
        exact (give_node (cs := cx ++ dr) (s := s) (n := 0) (by rfl) (by rw [h.len2 jir]; omega) (by rw [closedL_append, h.closed, jir.closed]; rfl)).trans (by rw [List.take_of_length_le (by rw [h.len2 jir]; omega)])
    · refine ⟨[U s, U 0, .s false 2 (cx ++ cy)], ?_, .two false s h k⟩
      refine EE_few 3 T_l5Replace (by decide) (Nat.le_of_ble_eq_true rfl) (rep_cl (.two ex s h k) hu v) ?_
      rw [show opt 159 = [] from rfl]
      simp only [bodyOf, Tryd.f159, SA]
      simp only [ul, ut, uc, uf, h.len, h.tk, h.tk2, h.dr2, h.len2 k, h.closed, h.leaf, k.len, k.tk, k.closed, k.leaf, n97, nz, nzi, hf, hg, hx, hy, rounds_rd, TMA, RR, IA, PA, RA0, RA1, RA2, RA3, RA4, RA5, RA6, RA7, RA8, RA9, RA10, Nat.reduceAdd, Nat.reduceMul, Nat.reduceEqDiff, Nat.reduceLeDiff, Nat.reduceLT, Int.reduceToNat, Int.reduceLT, Int.reduceLE, Int.reduceEq, Int.reduceNeg, Int.reduceAdd, Int.reduceSub, Int.reduceMul, reduceIte]
      rw [app_s (by decide) h.len h.leaf rfl (by omega) (by omega) (.inr rfl)]
      simp only [ul, ut, uc, uf, h.len, h.tk, h.tk2, h.dr2, h.len2 k, h.closed, h.leaf, k.len, k.tk, k.closed, k.leaf, n97, nz, nzi, hf, hg, hx, hy, rounds_rd, TMA, RR, IA, PA, RA0, RA1, RA2, RA3, RA4, RA5, RA6, RA7, RA8, RA9, RA10, Nat.reduceAdd, Nat.reduceMul, Nat.reduceEqDiff, Nat.reduceLeDiff, Nat.reduceLT, Int.reduceToNat, Int.reduceLT, Int.reduceLE, Int.reduceEq, Int.reduceNeg, Int.reduceAdd, Int.reduceSub, Int.reduceMul, reduceIte]
      rw [app_w (by rfl) (by decide) k.len k.leaf (by simpa using h.len) (by omega) (by omega) (by decide)]
      simp only [ul, ut, uc, uf, h.len, h.tk, h.tk2, h.dr2, h.len2 k, h.closed, h.leaf, k.len, k.tk, k.closed, k.leaf, n97, nz, nzi, hf, hg, hx, hy, rounds_rd, TMA, RR, IA, PA, RA0, RA1, RA2, RA3, RA4, RA5, RA6, RA7, RA8, RA9, RA10, Nat.reduceAdd, Nat.reduceMul, Nat.reduceEqDiff, Nat.reduceLeDiff, Nat.reduceLT, Int.reduceToNat, Int.reduceLT, Int.reduceLE, Int.reduceEq, Int.reduceNeg, Int.reduceAdd, Int.reduceSub, Int.reduceMul, reduceIte]
      exact (give_node (cs := cx ++ cy) (s := s) (n := 0) (by rfl) (by rw [h.len2 k]; omega) (by rw [closedL_append, h.closed, k.closed]; rfl)).trans (by rw [List.take_of_length_le (by rw [h.len2 k]; omega)])
  | @loop ex s w cx cy x y h k ih ik =>
    intro hw
    obtain ⟨cr, hr, hir⟩ := ih hw.2.2.1
    obtain ⟨dr, hs, jir⟩ := ik hw.2.2.2
    rw [rp]
    by_cases hwv : w = v
    · obtain ⟨cs', h1, h2⟩ := rep_same ex s w h k v hv hu hwu hw hr hir hs jir hwv
      refine ⟨cs', ?_, ?_⟩
      · rw [h1]
        simp only [hwv, ne_eq, not_true, false_and, if_false, Bool.and_true]
      · simpa only [hwv, ne_eq, not_true, false_and, if_false, Bool.and_true] using h2
    · by_cases hy : 0 < fr v y
      · by_cases hx : 0 < fr v x
        · obtain ⟨cs', h1, h2⟩ := rep_put2 ex s w h k v hv hu hwu hw hr hir hs jir hwv hy hx
          refine ⟨cs', ?_, ?_⟩
          · rw [h1]
            simp only [hwv, hx, hy, ne_eq, not_false_iff, and_self, if_true]
          · simpa only [hwv, hx, hy, ne_eq, not_false_iff, and_self, if_true] using h2
        · obtain ⟨cs', h1, h2⟩ := rep_put1 ex s w h k v hv hu hwu hw hr hir hs jir hwv hy hx
          refine ⟨cs', ?_, ?_⟩
          · rw [h1]
            simp only [hwv, hx, hy, ne_eq, not_false_iff, and_self, if_true, if_false, Bool.true_and]
          · simpa only [hwv, hx, hy, ne_eq, not_false_iff, and_self, if_true, if_false] using h2
      · obtain ⟨cs', h1, h2⟩ := rep_kept ex s w h k v hv hu hwu hw hr hir hs jir hwv hy
        refine ⟨cs', ?_, ?_⟩
        · rw [h1]
          simp only [hwv, hy, ne_eq, not_false_iff, and_false, if_false, Bool.and_true]
        · simpa only [hwv, hy, ne_eq, not_false_iff, and_false, if_false] using h2
end
end Go.Proofs.YtegbkihgnofkfaaDoor.Ev
