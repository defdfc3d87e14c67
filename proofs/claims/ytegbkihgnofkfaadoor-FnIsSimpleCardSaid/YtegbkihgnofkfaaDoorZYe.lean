/-
Texts Ye to Ye of the work.
-/
import Derived.Test.YtegbkihgnofkfaaDoorZYd
/-
Simplifying: a term put in place of a variable: the reference.
-/
namespace Go.Proofs.YtegbkihgnofkfaaDoor.Ev
section
set_option linter.unusedVariables false
set_option linter.unusedSimpArgs false
open Go Go.RowKit
set_option linter.unusedVariables false
set_option linter.unusedSimpArgs false
set_option maxHeartbeats 16000000 in
theorem rep_same (ex : Bool) (s w : UInt8) {cx cy cu cr dr : List AV} {x y u : T}
    (h : IsN cx x) (k : IsN cy y) (v : UInt8) (hv : v ≠ 0) (hu : IsN cu u) (hwu : WF u) (hw : WF (.loop s w x y)) {x' y' : T} {q q2 : Bool} (hr : EE 159 [.a cx, U v, .a cu] = some (.t [.a cr, B q])) (hir : IsN cr x') (hs : EE 159 [.a cy, U v, .a cu] = some (.t [.a dr, B q2])) (jir : IsN dr y') (hwv : w = v) :
    ∃ cs', EE 159 [.a [U s, U w, .s ex 2 (cx ++ cy)], U v, .a cu] = some (.t [.a cs', B (if 0 < fr v x then q else true)]) ∧ IsN cs' (.loop s w (if 0 < fr v x then x' else x) y) := by
  have ul := hu.len
  have ut := hu.tk
  have uc := hu.closed
  have uf := hu.leaf
  have hf := l5Free_ev h v hv hw.2.2.1
  have hg := l5Free_ev k v hv hw.2.2.2
  have n97 := loop_97 hw.1
  have hw0 : ¬ ((w.toNat : Int) = 0) := fun e => lv_0 hw.2.1 (UInt8.toNat_inj.1 (by simpa using e))
  have rl := hir.len
  have rt := hir.tk
  have rc := hir.closed
  have rf := hir.leaf
  have sl := jir.len
  have st := jir.tk
  have sc := jir.closed
  have sf := jir.leaf
  have hpk : ∀ σ, pureK σ (.t [.a cr, B q]) = some (.t [.a cr, B q], σ) := fun σ => pure_nb2 rc
  have hpk2 : ∀ σ, pureK σ (.t [.a dr, B q2]) = some (.t [.a dr, B q2], σ) := fun σ => pure_nb2 sc
  subst hwv
  by_cases hx : 0 < fr w x <;> simp only [hx, if_true, if_false]
  · refine ⟨[U s, U w, .s false 2 (cr ++ cy)], ?_, .loop false s w hir k⟩
    refine EE_few 3 T_l5Replace (by decide) (Nat.le_of_ble_eq_true rfl) (rep_cl (.loop ex s w h k) hu w) ?_
    rw [show opt 159 = [] from rfl]
    simp only [bodyOf, Tryd.f159, SA]
    cases q
    all_goals
      simp only [ul, ut, uc, uf, h.len, h.tk, h.tk2, h.dr2, h.len2 k, h.closed, h.leaf, k.len, k.tk, k.closed, k.leaf, n97, hf, hx, hr, hpk, rl, rt, rc, rf, rounds_rd, TMA, RR, IA, PA, RA0, RA1, RA2, RA3, RA4, RA5, RA6, RA7, RA8, RA9, RA10, Nat.reduceAdd, Nat.reduceMul, Nat.reduceEqDiff, Nat.reduceLeDiff, Nat.reduceLT, Int.reduceToNat, Int.reduceLT, Int.reduceLE, Int.reduceEq, Int.reduceNeg, Int.reduceAdd, Int.reduceSub, Int.reduceMul, reduceIte]
      rw [app_s (by decide) rl rf rfl (by omega) (by omega) (.inr rfl)]
      simp only [ul, ut, uc, uf, h.len, h.tk, h.tk2, h.dr2, h.len2 k, h.closed, h.leaf, k.len, k.tk, k.closed, k.leaf, n97, hf, hx, hr, hpk, rl, rt, rc, rf, rounds_rd, TMA, RR, IA, PA, RA0, RA1, RA2, RA3, RA4, RA5, RA6, RA7, RA8, RA9, RA10, Nat.reduceAdd, Nat.reduceMul, Nat.reduceEqDiff, Nat.reduceLeDiff, Nat.reduceLT, Int.reduceToNat, Int.reduceLT, Int.reduceLE, Int.reduceEq, Int.reduceNeg, Int.reduceAdd, Int.reduceSub, Int.reduceMul, reduceIte]
      rw [app_w (by rfl) (by decide) k.len k.leaf (by simpa using rl) (by omega) (by omega) (by decide)]
      simp only [ul, ut, uc, uf, h.len, h.tk, h.tk2, h.dr2, h.len2 k, h.closed, h.leaf, k.len, k.tk, k.closed, k.leaf, n97, hf, hx, hr, hpk, rl, rt, rc, rf, rounds_rd, TMA, RR, IA, PA, RA0, RA1, RA2, RA3, RA4, RA5, RA6, RA7, RA8, RA9, RA10, Nat.reduceAdd, Nat.reduceMul, Nat.reduceEqDiff, Nat.reduceLeDiff, Nat.reduceLT, Int.reduceToNat, Int.reduceLT, Int.reduceLE, Int.reduceEq, Int.reduceNeg, Int.reduceAdd, Int.reduceSub, Int.reduceMul, reduceIte]
      exact (give_node (cs := cr ++ cy) (s := s) (n := w) (by rfl) (by rw [hir.len2 k]; omega) (by rw [closedL_append, hir.closed, k.closed]; rfl)).trans (by rw [List.take_of_length_le (by rw [hir.len2 k]; omega)])
  · refine ⟨[U s, U w, .s false 2 (cx ++ cy)], ?_, .loop false s w h k⟩
    refine EE_few 3 T_l5Replace (by decide) (Nat.le_of_ble_eq_true rfl) (rep_cl (.loop ex s w h k) hu w) ?_
    rw [show opt 159 = [] from rfl]
    simp only [bodyOf, Tryd.f159, SA]
    simp only [ul, ut, uc, uf, h.len, h.tk, h.tk2, h.dr2, h.len2 k, h.closed, h.leaf, k.len, k.tk, k.closed, k.leaf, n97, hf, hx, rounds_rd, TMA, RR, IA, PA, RA0, RA1, RA2, RA3, RA4, RA5, RA6, RA7, RA8, RA9, RA10, Nat.reduceAdd, Nat.reduceMul, Nat.reduceEqDiff, Nat.reduceLeDiff, Nat.reduceLT, Int.reduceToNat, Int.reduceLT, Int.reduceLE, Int.reduceEq, Int.reduceNeg, Int.reduceAdd, Int.reduceSub, Int.reduceMul, reduceIte]
    rw [app_s (by decide) h.len h.leaf rfl (by omega) (by omega) (.inr rfl)]
    simp only [ul, ut, uc, uf, h.len, h.tk, h.tk2, h.dr2, h.len2 k, h.closed, h.leaf, k.len, k.tk, k.closed, k.leaf, n97, hf, hx, rounds_rd, TMA, RR, IA, PA, RA0, RA1, RA2, RA3, RA4, RA5, RA6, RA7, RA8, RA9, RA10, Nat.reduceAdd, Nat.reduceMul, Nat.reduceEqDiff, Nat.reduceLeDiff, Nat.reduceLT, Int.reduceToNat, Int.reduceLT, Int.reduceLE, Int.reduceEq, Int.reduceNeg, Int.reduceAdd, Int.reduceSub, Int.reduceMul, reduceIte]
    rw [app_w (by rfl) (by decide) k.len k.leaf (by simpa using h.len) (by omega) (by omega) (by decide)]
    simp only [ul, ut, uc, uf, h.len, h.tk, h.tk2, h.dr2, h.len2 k, h.closed, h.leaf, k.len, k.tk, k.closed, k.leaf, n97, hf, hx, rounds_rd, TMA, RR, IA, PA, RA0, RA1, RA2, RA3, RA4, RA5, RA6, RA7, RA8, RA9, RA10, Nat.reduceAdd, Nat.reduceMul, Nat.reduceEqDiff, Nat.reduceLeDiff, Nat.reduceLT, Int.reduceToNat, Int.reduceLT, Int.reduceLE, Int.reduceEq, Int.reduceNeg, Int.reduceAdd, Int.reduceSub, Int.reduceMul, reduceIte]
    exact (give_node (cs := cx ++ cy) (s := s) (n := w) (by rfl) (by rw [h.len2 k]; omega) (by rw [closedL_append, h.closed, k.closed]; rfl)).trans (by rw [List.take_of_length_le (by rw [h.len2 k]; omega)])
set_option maxHeartbeats 16000000 in
theorem rep_kept (ex : Bool) (s w : UInt8) {cx cy cu cr dr : List AV} {x y u : T}
    (h : IsN cx x) (k : IsN cy y) (v : UInt8) (hv : v ≠ 0) (hu : IsN cu u) (hwu : WF u) (hw : WF (.loop s w x y)) {x' y' : T} {q q2 : Bool} (hr : EE 159 [.a cx, U v, .a cu] = some (.t [.a cr, B q])) (hir : IsN cr x') (hs : EE 159 [.a cy, U v, .a cu] = some (.t [.a dr, B q2])) (jir : IsN dr y') (hwv : ¬ w = v) (hy : ¬ 0 < fr v y) :
    ∃ cs', EE 159 [.a [U s, U w, .s ex 2 (cx ++ cy)], U v, .a cu] = some (.t [.a cs', B (if 0 < fr v x then q else true)]) ∧ IsN cs' (.loop s w (if 0 < fr v x then x' else x) y) := by
  have ul := hu.len
  have ut := hu.tk
  have uc := hu.closed
  have uf := hu.leaf
  have hf := l5Free_ev h v hv hw.2.2.1
  have hg := l5Free_ev k v hv hw.2.2.2
  have n97 := loop_97 hw.1
  have hw0 : ¬ ((w.toNat : Int) = 0) := fun e => lv_0 hw.2.1 (UInt8.toNat_inj.1 (by simpa using e))
  have rl := hir.len
  have rt := hir.tk
  have rc := hir.closed
  have rf := hir.leaf
  have sl := jir.len
  have st := jir.tk
  have sc := jir.closed
  have sf := jir.leaf
  have hpk : ∀ σ, pureK σ (.t [.a cr, B q]) = some (.t [.a cr, B q], σ) := fun σ => pure_nb2 rc
  have hpk2 : ∀ σ, pureK σ (.t [.a dr, B q2]) = some (.t [.a dr, B q2], σ) := fun σ => pure_nb2 sc
  have nwv := ne_int hwv
  by_cases hx : 0 < fr v x <;> simp only [hx, if_true, if_false]
  · refine ⟨[U s, U w, .s false 2 (cr ++ cy)], ?_, .loop false s w hir k⟩
    refine EE_few 3 T_l5Replace (by decide) (Nat.le_of_ble_eq_true rfl) (rep_cl (.loop ex s w h k) hu v) ?_
    rw [show opt 159 = [] from rfl]
    simp only [bodyOf, Tryd.f159, SA]
    cases q
    all_goals
      simp only [ul, ut, uc, uf, h.len, h.tk, h.tk2, h.dr2, h.len2 k, h.closed, h.leaf, k.len, k.tk, k.closed, k.leaf, n97, nwv, hw0, hf, hg, hx, hy, hr, hpk, rl, rt, rc, rf, rounds_rd, TMA, RR, IA, PA, RA0, RA1, RA2, RA3, RA4, RA5, RA6, RA7, RA8, RA9, RA10, Nat.reduceAdd, Nat.reduceMul, Nat.reduceEqDiff, Nat.reduceLeDiff, Nat.reduceLT, Int.reduceToNat, Int.reduceLT, Int.reduceLE, Int.reduceEq, Int.reduceNeg, Int.reduceAdd, Int.reduceSub, Int.reduceMul, reduceIte]
      rw [app_s (by decide) rl rf rfl (by omega) (by omega) (.inr rfl)]
      simp only [ul, ut, uc, uf, h.len, h.tk, h.tk2, h.dr2, h.len2 k, h.closed, h.leaf, k.len, k.tk, k.closed, k.leaf, n97, nwv, hw0, hf, hg, hx, hy, hr, hpk, rl, rt, rc, rf, rounds_rd, TMA, RR, IA, PA, RA0, RA1, RA2, RA3, RA4, RA5, RA6, RA7, RA8, RA9, RA10, Nat.reduceAdd, Nat.reduceMul, Nat.reduceEqDiff, Nat.reduceLeDiff, Nat.reduceLT, Int.reduceToNat, Int.reduceLT, Int.reduceLE, Int.reduceEq, Int.reduceNeg, Int.reduceAdd, Int.reduceSub, Int.reduceMul, reduceIte]
      rw [app_w (by rfl) (by decide) k.len k.leaf (by simpa using rl) (by omega) (by omega) (by decide)]
      simp only [ul, ut, uc, uf, h.len, h.tk, h.tk2, h.dr2, h.len2 k, h.closed, h.leaf, k.len, k.tk, k.closed, k.leaf, n97, nwv, hw0, hf, hg, hx, hy, hr, hpk, rl, rt, rc, rf, rounds_rd, TMA, RR, IA, PA, RA0, RA1, RA2, RA3, RA4, RA5, RA6, RA7, RA8, RA9, RA10, Nat.reduceAdd, Nat.reduceMul, Nat.reduceEqDiff, Nat.reduceLeDiff, Nat.reduceLT, Int.reduceToNat, Int.reduceLT, Int.reduceLE, Int.reduceEq, Int.reduceNeg, Int.reduceAdd, Int.reduceSub, Int.reduceMul, reduceIte]
      exact (give_node (cs := cr ++ cy) (s := s) (n := w) (by rfl) (by rw [hir.len2 k]; omega) (by rw [closedL_append, hir.closed, k.closed]; rfl)).trans (by rw [List.take_of_length_le (by rw [hir.len2 k]; omega)])
  · refine ⟨[U s, U w, .s false 2 (cx ++ cy)], ?_, .loop false s w h k⟩
    refine EE_few 3 T_l5Replace (by decide) (Nat.le_of_ble_eq_true rfl) (rep_cl (.loop ex s w h k) hu v) ?_
    rw [show opt 159 = [] from rfl]
    simp only [bodyOf, Tryd.f159, SA]
    simp only [ul, ut, uc, uf, h.len, h.tk, h.tk2, h.dr2, h.len2 k, h.closed, h.leaf, k.len, k.tk, k.closed, k.leaf, n97, nwv, hw0, hf, hg, hx, hy, rounds_rd, TMA, RR, IA, PA, RA0, RA1, RA2, RA3, RA4, RA5, RA6, RA7, RA8, RA9, RA10, Nat.reduceAdd, Nat.reduceMul, Nat.reduceEqDiff, Nat.reduceLeDiff, Nat.reduceLT, Int.reduceToNat, Int.reduceLT, Int.reduceLE, Int.reduceEq, Int.reduceNeg, Int.reduceAdd, Int.reduceSub, Int.reduceMul, reduceIte]
    rw [app_s (by decide) h.len h.leaf rfl (by omega) (by omega) (.inr rfl)]
    simp only [ul, ut, uc, uf, h.len, h.tk, h.tk2, h.dr2, h.len2 k, h.closed, h.leaf, k.len, k.tk, k.closed, k.leaf, n97, nwv, hw0, hf, hg, hx, hy, rounds_rd, TMA, RR, IA, PA, RA0, RA1, RA2, RA3, RA4, RA5, RA6, RA7, RA8, RA9, RA10, Nat.reduceAdd, Nat.reduceMul, Nat.reduceEqDiff, Nat.reduceLeDiff, Nat.reduceLT, Int.reduceToNat, Int.reduceLT, Int.reduceLE, Int.reduceEq, Int.reduceNeg, Int.reduceAdd, Int.reduceSub, Int.reduceMul, reduceIte]
    rw [app_w (by rfl) (by decide) k.len k.leaf (by simpa using h.len) (by omega) (by omega) (by decide)]
    simp only [ul, ut, uc, uf, h.len, h.tk, h.tk2, h.dr2, h.len2 k, h.closed, h.leaf, k.len, k.tk, k.closed, k.leaf, n97, nwv, hw0, hf, hg, hx, hy, rounds_rd, TMA, RR, IA, PA, RA0, RA1, RA2, RA3, RA4, RA5, RA6, RA7, RA8, RA9, RA10, Nat.reduceAdd, Nat.reduceMul, Nat.reduceEqDiff, Nat.reduceLeDiff, Nat.reduceLT, Int.reduceToNat, Int.reduceLT, Int.reduceLE, Int.reduceEq, Int.reduceNeg, Int.reduceAdd, Int.reduceSub, Int.reduceMul, reduceIte]
    exact (give_node (cs := cx ++ cy) (s := s) (n := w) (by rfl) (by rw [h.len2 k]; omega) (by rw [closedL_append, h.closed, k.closed]; rfl)).trans (by rw [List.take_of_length_le (by rw [h.len2 k]; omega)])
set_option maxHeartbeats 16000000 in
theorem rep_put1 (ex : Bool) (s w : UInt8) {cx cy cu cr dr : List AV} {x y u : T}
    (h : IsN cx x) (k : IsN cy y) (v : UInt8) (hv : v ≠ 0) (hu : IsN cu u) (hwu : WF u) (hw : WF (.loop s w x y)) {x' y' : T} {q q2 : Bool} (hr : EE 159 [.a cx, U v, .a cu] = some (.t [.a cr, B q])) (hir : IsN cr x') (hs : EE 159 [.a cy, U v, .a cu] = some (.t [.a dr, B q2])) (jir : IsN dr y') (hwv : ¬ w = v) (hy : 0 < fr v y) (hx : ¬ 0 < fr v x) :
    ∃ cs', EE 159 [.a [U s, U w, .s ex 2 (cx ++ cy)], U v, .a cu] = some (.t [.a cs', B (q2 && !decide (0 < fr w u))]) ∧ IsN cs' (.loop s w x y') := by
  have ul := hu.len
  have ut := hu.tk
  have uc := hu.closed
  have uf := hu.leaf
  have hf := l5Free_ev h v hv hw.2.2.1
  have hg := l5Free_ev k v hv hw.2.2.2
  have n97 := loop_97 hw.1
  have hw0 : ¬ ((w.toNat : Int) = 0) := fun e => lv_0 hw.2.1 (UInt8.toNat_inj.1 (by simpa using e))
  have rl := hir.len
  have rt := hir.tk
  have rc := hir.closed
  have rf := hir.leaf
  have sl := jir.len
  have st := jir.tk
  have sc := jir.closed
  have sf := jir.leaf
  have hpk : ∀ σ, pureK σ (.t [.a cr, B q]) = some (.t [.a cr, B q], σ) := fun σ => pure_nb2 rc
  have hpk2 : ∀ σ, pureK σ (.t [.a dr, B q2]) = some (.t [.a dr, B q2], σ) := fun σ => pure_nb2 sc
  have nwv := ne_int hwv
  have hfu := l5Free_ev hu w (lv_0 hw.2.1) hwu
  generalize decide (0 < fr w u) = z at hfu ⊢
  refine ⟨[U s, U w, .s false 2 (cx ++ dr)], ?_, .loop false s w h jir⟩
  refine EE_few 3 T_l5Replace (by decide) (Nat.le_of_ble_eq_true rfl) (rep_cl (.loop ex s w h k) hu v) ?_
  rw [show opt 159 = [] from rfl]
  simp only [bodyOf, Tryd.f159, SA]
  cases q2 <;> cases z
  all_goals
    simp only [ul, ut, uc, uf, h.len, h.tk, h.tk2, h.dr2, h.len2 k, h.closed, h.leaf, k.len, k.tk, k.closed, k.leaf, n97, nwv, hw0, hf, hg, hfu, hx, hy, rounds_rd, TMA, RR, IA, PA, RA0, RA1, RA2, RA3, RA4, RA5, RA6, RA7, RA8, RA9, RA10, Nat.reduceAdd, Nat.reduceMul, Nat.reduceEqDiff, Nat.reduceLeDiff, Nat.reduceLT, Int.reduceToNat, Int.reduceLT, Int.reduceLE, Int.reduceEq, Int.reduceNeg, Int.reduceAdd, Int.reduceSub, Int.reduceMul, reduceIte]
    rw [app_s (by decide) h.len h.leaf rfl (by omega) (by omega) (.inr rfl)]
    simp only [ul, ut, uc, uf, h.len, h.tk, h.tk2, h.dr2, h.len2 k, h.closed, h.leaf, k.len, k.tk, k.closed, k.leaf, n97, nwv, hw0, hf, hg, hfu, hx, hy, hs, hpk2, sl, st, sc, sf, rounds_rd, TMA, RR, IA, PA, RA0, RA1, RA2, RA3, RA4, RA5, RA6, RA7, RA8, RA9, RA10, Nat.reduceAdd, Nat.reduceMul, Nat.reduceEqDiff, Nat.reduceLeDiff, Nat.reduceLT, Int.reduceToNat, Int.reduceLT, Int.reduceLE, Int.reduceEq, Int.reduceNeg, Int.reduceAdd, Int.reduceSub, Int.reduceMul, reduceIte]
    rw [app_w (by rfl) (by decide) sl sf (by simpa using h.len) (by omega) (by omega) (by decide)]
    simp only [ul, ut, uc, uf, h.len, h.tk, h.tk2, h.dr2, h.len2 k, h.closed, h.leaf, k.len, k.tk, k.closed, k.leaf, n97, nwv, hw0, hf, hg, hfu, hx, hy, hs, hpk2, sl, st, sc, sf, rounds_rd, TMA, RR, IA, PA, RA0, RA1, RA2, RA3, RA4, RA5, RA6, RA7, RA8, RA9, RA10, Nat.reduceAdd, Nat.reduceMul, Nat.reduceEqDiff, Nat.reduceLeDiff, Nat.reduceLT, Int.reduceToNat, Int.reduceLT, Int.reduceLE, Int.reduceEq, Int.reduceNeg, Int.reduceAdd, Int.reduceSub, Int.reduceMul, reduceIte]
    exact (give_node (cs := cx ++ dr) (s := s) (n := w) (by rfl) (by rw [h.len2 jir]; omega) (by rw [closedL_append, h.closed, jir.closed]; rfl)).trans (by rw [List.take_of_length_le (by rw [h.len2 jir]; omega)])
end
end Go.Proofs.YtegbkihgnofkfaaDoor.Ev
