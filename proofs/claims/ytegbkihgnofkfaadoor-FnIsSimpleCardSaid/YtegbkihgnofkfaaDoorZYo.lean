/-
Texts Yo to Yo of the work.
-/
import Derived.Test.YtegbkihgnofkfaaDoorZYn
/-
Simplifying: the reference's rules: two loops made one, main case.
-/
namespace Go.Proofs.YtegbkihgnofkfaaDoor.Ev
section
set_option linter.unusedVariables false
set_option linter.unusedSimpArgs false
open Go Go.RowKit
set_option linter.unusedVariables false
set_option linter.unusedSimpArgs false
set_option maxHeartbeats 8000000 in
theorem fuse_main (ex e2 : Bool) (v w : UInt8) {ca cb cu : List AV} {a b u : T} (ha : IsN ca a) (hb : IsN cb b) (hu : IsN cu u) (hw : WF (.loop 91 v (.loop 91 w a b) u)) (hl : (textT u).length ≤ 80) : ∃ r, EE 145 [.a [U 91, U v, .s ex 2 ([U 91, U w, .s e2 2 (ca ++ cb)] ++ cu)]] = some r ∧ SpR r (fuS v w a b u) := by
  have hcl := cl1 (IsN.loop ex 91 v (.loop e2 91 w ha hb) hu)
  have hrun : ∀ y, (evC II EE (withOpt LU pf) MX (strip (bodyOf Tryd.f145)) (St.init [.a [U 91, U v, .s ex 2 ([U 91, U w, .s e2 2 (ca ++ cb)] ++ cu)]])).bind (resK II Tryd.f145.results.toList) = some y → EE 145 [.a [U 91, U v, .s ex 2 ([U 91, U w, .s e2 2 (ca ++ cb)] ++ cu)]] = some y := fun y h => EE_plain T_l10Fuse (by decide) (Nat.le_of_ble_eq_true rfl) hcl (by rw [opt_l10Fuse]; exact h)
  have hv := hw.2.1
  have hwv := hw.2.2.1.2.1
  have hc := l10Count_ev hu v (lv_0 hv) hw.2.2.2 hl
  have hf := l5Free_ev hu w (lv_0 hwv) hw.2.2.2
  obtain ⟨cr, hr, hir⟩ := l5Replace_ev hu v (lv_0 hv) hb hw.2.2.1.2.2.2 hw.2.2.2
  have rl := hir.len
  have rt := hir.tk
  have rc := hir.closed
  have rf := hir.leaf
  have al := ha.len
  have at3 := ha.tk
  have ac := ha.closed
  have af := ha.leaf
  have bl := hb.len
  have bt := hb.tk
  have bc := hb.closed
  have bf := hb.leaf
  have ul := hu.len
  have ut := hu.tk
  have uc := hu.closed
  have uf := hu.leaf
  have ab2 := ha.tk2 (cy := cb)
  have abd := ha.dr2 (cy := cb)
  have abl := ha.len2 hb
  have c1 : ((1 : Int) < (cn v u : Int)) ↔ 1 < cn v u := by omega
  have hpk : ∀ σ, pureK σ (.t [.a cr, B (rp v b u).2]) = some (.t [.a cr, B (rp v b u).2], σ) := fun σ => pure_nb2 rc
  by_cases h1 : 1 < cn v u
  · rw [fuS, if_pos (.inl h1)]
    refine ⟨_, hrun _ ?_, SpR.no⟩
    simp only [bodyOf, Tryd.f145, SA]
    simp only [two_name, v91, hc, hf, hr, hpk, rl, rt, rc, rf, al, at3, ac, af, bl, bt, bc, bf, ul, ut, uc, uf, ab2, abd, abl, c1, h1, withOptU_lo, strictPU_lo, maskU_lo, lookU, baseU, stU, base_strictU, st_strictU, regU_off, regU_3, regU_6, lookMU, stMU, bxU, TMA, RR, IA, PA, RA0, RA1, RA2, RA3, RA4, RA5, RA6, RA7, RA8, RA9, RA10, Nat.reduceAdd, Nat.reduceMul, Nat.reduceEqDiff, Nat.reduceLeDiff, Nat.reduceLT, Int.reduceToNat, Int.reduceLT, Int.reduceLE, Int.reduceEq, Int.reduceNeg, Int.reduceAdd, Int.reduceSub, Int.reduceMul, reduceIte]
  · by_cases h2 : w = v
    · subst h2
      rw [fuS, if_neg (fun h => h.elim h1 fun g => g.1 rfl)]
      have hcl3 : closedL [U 91, U w, .s true 2 (ca ++ cr)] = true := by simp only [closedL, closed, closedL_append, ac, rc, Bool.and_self]
      have hz : (rp w b u).2 = true ∨ (rp w b u).2 = false := by cases (rp w b u).2 <;> simp
      rcases hz with hq | hq
      · rw [if_pos hq]
        rw [hq] at hr hpk
        refine ⟨.t [.a [U 91, U w, .s true 2 (ca ++ cr)], B true], hrun _ ?_, _, rfl, .loop true 91 w ha hir⟩
        simp only [bodyOf, Tryd.f145, SA]
        simp only [two_name, v91, hc, hf, hr, hpk, rl, rt, rc, rf, al, at3, ac, af, bl, bt, bc, bf, ul, ut, uc, uf, ab2, abd, abl, c1, h1, withOptU_lo, strictPU_lo, maskU_lo, lookU, baseU, stU, base_strictU, st_strictU, regU_off, regU_3, regU_6, lookMU, stMU, bxU, TMA, RR, IA, PA, RA0, RA1, RA2, RA3, RA4, RA5, RA6, RA7, RA8, RA9, RA10, Nat.reduceAdd, Nat.reduceMul, Nat.reduceEqDiff, Nat.reduceLeDiff, Nat.reduceLT, Int.reduceToNat, Int.reduceLT, Int.reduceLE, Int.reduceEq, Int.reduceNeg, Int.reduceAdd, Int.reduceSub, Int.reduceMul, reduceIte]
        exact give_nb hcl3
      · rw [if_neg (by rw [hq]; simp)]
        rw [hq] at hr hpk
        refine ⟨.t [.a [U 91, U w, .s true 2 (ca ++ cr)], B false], hrun _ ?_, _, rfl, hcl3, rfl, rfl⟩
        simp only [bodyOf, Tryd.f145, SA]
        simp only [two_name, v91, hc, hf, hr, hpk, rl, rt, rc, rf, al, at3, ac, af, bl, bt, bc, bf, ul, ut, uc, uf, ab2, abd, abl, c1, h1, withOptU_lo, strictPU_lo, maskU_lo, lookU, baseU, stU, base_strictU, st_strictU, regU_off, regU_3, regU_6, lookMU, stMU, bxU, TMA, RR, IA, PA, RA0, RA1, RA2, RA3, RA4, RA5, RA6, RA7, RA8, RA9, RA10, Nat.reduceAdd, Nat.reduceMul, Nat.reduceEqDiff, Nat.reduceLeDiff, Nat.reduceLT, Int.reduceToNat, Int.reduceLT, Int.reduceLE, Int.reduceEq, Int.reduceNeg, Int.reduceAdd, Int.reduceSub, Int.reduceMul, reduceIte]
        exact give_nb hcl3
    · have nwv := ne_int h2
      by_cases h3 : 0 < fr w u
      · rw [fuS, if_pos (.inr ⟨h2, h3⟩)]
        rw [decide_eq_true h3] at hf
        refine ⟨_, hrun _ ?_, SpR.no⟩
        simp only [bodyOf, Tryd.f145, SA]
        simp only [two_name, v91, hc, hf, hr, hpk, rl, rt, rc, rf, al, at3, ac, af, bl, bt, bc, bf, ul, ut, uc, uf, ab2, abd, abl, c1, h1, nwv, withOptU_lo, strictPU_lo, maskU_lo, lookU, baseU, stU, base_strictU, st_strictU, regU_off, regU_3, regU_6, lookMU, stMU, bxU, TMA, RR, IA, PA, RA0, RA1, RA2, RA3, RA4, RA5, RA6, RA7, RA8, RA9, RA10, Nat.reduceAdd, Nat.reduceMul, Nat.reduceEqDiff, Nat.reduceLeDiff, Nat.reduceLT, Int.reduceToNat, Int.reduceLT, Int.reduceLE, Int.reduceEq, Int.reduceNeg, Int.reduceAdd, Int.reduceSub, Int.reduceMul, reduceIte]
      · rw [fuS, if_neg (fun h => h.elim h1 fun g => h3 g.2)]
        rw [decide_eq_false h3] at hf
        have hcl3 : closedL [U 91, U w, .s true 2 (ca ++ cr)] = true := by simp only [closedL, closed, closedL_append, ac, rc, Bool.and_self]
        have hz : (rp v b u).2 = true ∨ (rp v b u).2 = false := by cases (rp v b u).2 <;> simp
        rcases hz with hq | hq
        · rw [if_pos hq]
          rw [hq] at hr hpk
          refine ⟨.t [.a [U 91, U w, .s true 2 (ca ++ cr)], B true], hrun _ ?_, _, rfl, .loop true 91 w ha hir⟩
          simp only [bodyOf, Tryd.f145, SA]
          simp only [two_name, v91, hc, hf, hr, hpk, rl, rt, rc, rf, al, at3, ac, af, bl, bt, bc, bf, ul, ut, uc, uf, ab2, abd, abl, c1, h1, nwv, withOptU_lo, strictPU_lo, maskU_lo, lookU, baseU, stU, base_strictU, st_strictU, regU_off, regU_3, regU_6, lookMU, stMU, bxU, TMA, RR, IA, PA, RA0, RA1, RA2, RA3, RA4, RA5, RA6, RA7, RA8, RA9, RA10, Nat.reduceAdd, Nat.reduceMul, Nat.reduceEqDiff, Nat.reduceLeDiff, Nat.reduceLT, Int.reduceToNat, Int.reduceLT, Int.reduceLE, Int.reduceEq, Int.reduceNeg, Int.reduceAdd, Int.reduceSub, Int.reduceMul, reduceIte]
          exact give_nb hcl3
        · rw [if_neg (by rw [hq]; simp)]
          rw [hq] at hr hpk
          refine ⟨.t [.a [U 91, U w, .s true 2 (ca ++ cr)], B false], hrun _ ?_, _, rfl, hcl3, rfl, rfl⟩
          simp only [bodyOf, Tryd.f145, SA]
          simp only [two_name, v91, hc, hf, hr, hpk, rl, rt, rc, rf, al, at3, ac, af, bl, bt, bc, bf, ul, ut, uc, uf, ab2, abd, abl, c1, h1, nwv, withOptU_lo, strictPU_lo, maskU_lo, lookU, baseU, stU, base_strictU, st_strictU, regU_off, regU_3, regU_6, lookMU, stMU, bxU, TMA, RR, IA, PA, RA0, RA1, RA2, RA3, RA4, RA5, RA6, RA7, RA8, RA9, RA10, Nat.reduceAdd, Nat.reduceMul, Nat.reduceEqDiff, Nat.reduceLeDiff, Nat.reduceLT, Int.reduceToNat, Int.reduceLT, Int.reduceLE, Int.reduceEq, Int.reduceNeg, Int.reduceAdd, Int.reduceSub, Int.reduceMul, reduceIte]
          exact give_nb hcl3
/-- What the reference's rule for two loops gives. -/
theorem fuse_ev {cs : List AV} {t : T} (h : IsN cs t) (hw : WF t) (hl : (textT t).length ≤ 80) : ∃ r, EE 145 [.a cs] = some r ∧ SpR r (match t with | .loop s v x y => fuseS s v x y | _ => none) := by
  cases h with
  | dig ex c => exact ⟨_, fuse_no (.dig ex c) hw (by intros; simp), SpR.no⟩
  | var ex c => exact ⟨_, fuse_no (.var ex c) hw (by intros; simp), SpR.no⟩
  | one ex s h => exact ⟨_, fuse_no (.one ex s h) hw (by intros; simp), SpR.no⟩
  | two ex s h k => exact ⟨_, fuse_no (.two ex s h k) hw (by intros; simp), SpR.no⟩
  | loop ex s v h k =>
    rename_i cx cy x y
    show ∃ r, _ ∧ SpR r (fuseS s v x y)
    by_cases hs : s = 91
    · subst hs
      cases x with
      | loop q w a b =>
        by_cases hq : q = 91
        · subst hq
          have hR : fuseS 91 v (.loop 91 w a b) y = fuS v w a b y := by simp only [fuseS, and_self, if_true]
          rw [hR]
          simp only [textT, List.length_cons, List.length_append, List.length_nil] at hl
          cases h with
          | loop e2 _ _ ha hb => exact fuse_main ex e2 v w ha hb k hw (by omega)
        · have hR : fuseS 91 v (.loop q w a b) y = none := by rw [fuseS, if_neg (fun h => hq h.2)]
          rw [hR]
          exact ⟨_, fuse_no (.loop ex 91 v h k) hw (by intro _ _ _ _ _ e; injection e with _ _ e _; injection e with e; exact hq e), SpR.no⟩
      | _ => exact ⟨_, fuse_no (.loop ex 91 v h k) hw (by intro _ _ _ _ _ e; injection e with _ _ e _; cases e), SpR.no⟩
    · have hR : fuseS s v x y = none := by
        cases x with
        | loop q w a b => rw [fuseS, if_neg (fun h => hs h.1)]
        | _ => rfl
      rw [hR]
      exact ⟨_, fuse_no (.loop ex s v h k) hw (by intro _ _ _ _ _ e; injection e with e; exact hs e), SpR.no⟩
end
end Go.Proofs.YtegbkihgnofkfaaDoor.Ev
