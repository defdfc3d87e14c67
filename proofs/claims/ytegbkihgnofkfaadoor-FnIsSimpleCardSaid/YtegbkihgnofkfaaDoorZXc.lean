/-
Texts Xc to Xc of the work.
-/
import Derived.Test.YtegbkihgnofkfaaDoorZXb
/-
Simplifying: a term put in place of a variable: the implementation.
-/
namespace Go.Proofs.YtegbkihgnofkfaaDoor.Ev
section
set_option linter.unusedVariables false
set_option linter.unusedSimpArgs false
open Go Go.RowKit
set_option linter.unusedVariables false
set_option linter.unusedSimpArgs false
/-- A term with another one in place of a variable, none if one of its variables would be bound there. -/
def pt (v : UInt8) (u : T) : T → Option T
  | .dig c => some (.dig c)
  | .var c => if c = v then some u else some (.var c)
  | .one s x => if fr v x = 0 then some (.one s x) else (pt v u x).map (.one s)
  | .two s x y => if fr v x + fr v y = 0 then some (.two s x y) else (pt v u x).bind fun x' => (pt v u y).map fun y' => .two s x' y'
  | .loop s w x y => if fr v (.loop s w x y) = 0 then some (.loop s w x y) else (pt v u x).bind fun x' => if w = v then some (.loop s w x' y) else if 0 < fr v y ∧ 0 < fr w u then none else (pt v u y).map fun y' => .loop s w x' y'
/-- A pointer to a term, or none. -/
def PutR (r : AV) : Option T → Prop
  | some t => IsP r t
  | none => r = nilP
theorem T_put : TT 131 = some (Tryd.f131, bodyOf Tryd.f131) := by kernel_rfl
theorem deep_obX {σ : Sto} {k off T : Nat} {cs : List AV} (d : Nat) (h : σ k = some (.ob T cs)) : deep σ (d + 1) (.r k off) = (deepC (deep σ d) cs).map fun (ds, is) => (.p (ds.drop off), k :: is) := by simp only [deep, h]
theorem give_is {σ : Sto} {b : AV} {u : T} (h : IsP b u) : giveAll σ [b] = some b := by
  have hc := h.closed
  cases h <;> exact give_p (by simpa only [closed] using hc)
theorem pure_is {σ : Sto} {b : AV} {u : T} (h : IsP b u) : pureK σ b = some (b, σ) := by
  have hc := h.closed
  cases h <;> simp only [pureK, hc, if_true]
theorem pure_nil {σ : Sto} : pureK σ nilP = some (nilP, σ) := rfl
theorem leaf1 {b : AV} {u : T} (h : IsP b u) : [b].all leafOk = true := by simp only [List.all_cons, List.all_nil, h.leaf.2, Bool.and_self]
theorem give_nil {σ : Sto} : giveAll σ [nilP] = some nilP := rfl
theorem give_term {σ : Sto} {k k' T E N m : Nat} {s v : List UInt8} {cs : List AV} (h1 : σ k = some (.ob T [S s, S v, .w k' 0 m])) (h2 : σ k' = some (.row E 1 N cs)) (hl : m ≤ cs.length) (hc : closedL cs = true) : giveAll σ [.r k 0] = some (.p [S s, S v, .s false m (cs.take m)]) := by
  have hd : deep σ 8 (.r k 0) = some (.p [S s, S v, .s false m (cs.take m)], [k, k']) := by
    rw [deep_obX 7 h1]
    have e : deep σ 7 (.w k' 0 m) = some (.s false m (cs.take m), [k']) := by rw [deep_w 6 h2 (by omega) hc, List.drop_zero, Nat.mul_one]
    simp only [deepC, deep_closed 7 (S s) rfl, deep_closed 7 (S v) rfl, e, Option.bind_some, Option.map_some, List.append_nil, List.nil_append, List.drop_zero]
  simp only [giveAll, giveL, give1, hd, Option.bind_some, Option.map_some, List.append_nil]
  simp
set_option maxHeartbeats 4000000 in
theorem put_ev {a : AV} {t : T} (hp : IsP a t) : WF t → (textT t).length ≤ 1000000 → ∀ (b : AV) (u : T), IsP b u → WF u → (textT u).length ≤ 1000000 → ∀ v, ∃ r, EE 131 [a, S [v], b] = some r ∧ PutR r (pt v u t) := by
  induction hp with
  | dig ex c =>
    intro hw hl b u hb hwu hlu v
    obtain ⟨m, hm, hg⟩ := free_ev (.dig ex c) hw hl
    have hg := hg v
    refine ⟨.p [S [c], S [], .s ex 0 []], ?_, .dig ex c⟩
    refine EE_few 3 T_put (by decide) (Nat.le_of_ble_eq_true rfl) (by simp only [closedL, closed, hb.closed, Bool.and_self]) ?_
    rw [show opt 131 = [] from rfl]
    simp only [bodyOf, Tryd.f131, SA]
    rw [fr] at hg
    have hg : (m [v]).getD 0 = 0 := hg
    simp only [hm, hg, pureK_m, rounds_rd, TMA, RR, IA, PA, RA0, RA1, RA2, RA3, RA4, RA5, RA6, RA7, RA8, RA9, RA10, Nat.reduceAdd, Nat.reduceMul, Nat.reduceEqDiff, Nat.reduceLeDiff, Nat.reduceLT, Int.reduceToNat, Int.reduceLT, Int.reduceLE, Int.reduceEq, Int.reduceNeg, Int.reduceAdd, Int.reduceSub, Int.reduceMul, reduceIte]
  | var ex c =>
    intro hw hl b u hb hwu hlu v
    obtain ⟨m, hm, hg⟩ := free_ev (.var ex c) hw hl
    have hg := hg v
    by_cases hc : c = v
    · refine ⟨b, ?_, by rw [pt, if_pos hc]; exact hb⟩
      rw [fr, if_pos hc] at hg
      have hg : (m [v]).getD 0 = 1 := hg
      refine EE_few 3 T_put (by decide) (Nat.le_of_ble_eq_true rfl) (by simp only [closedL, closed, hb.closed, Bool.and_self]) ?_
      rw [show opt 131 = [] from rfl]
      simp only [bodyOf, Tryd.f131, SA]
      simp only [hm, hg, hb.closed, give_is hb, pureK_m, rounds_rd, TMA, RR, IA, PA, RA0, RA1, RA2, RA3, RA4, RA5, RA6, RA7, RA8, RA9, RA10, Nat.reduceAdd, Nat.reduceMul, Nat.reduceEqDiff, Nat.reduceLeDiff, Nat.reduceLT, Int.reduceToNat, Int.reduceLT, Int.reduceLE, Int.reduceEq, Int.reduceNeg, Int.reduceAdd, Int.reduceSub, Int.reduceMul, reduceIte]
    · refine ⟨.p [S [c], S [], .s ex 0 []], ?_, by rw [pt, if_neg hc]; exact .var ex c⟩
      rw [fr, if_neg hc] at hg
      have hg : (m [v]).getD 0 = 0 := hg
      refine EE_few 3 T_put (by decide) (Nat.le_of_ble_eq_true rfl) (by simp only [closedL, closed, hb.closed, Bool.and_self]) ?_
      rw [show opt 131 = [] from rfl]
      simp only [bodyOf, Tryd.f131, SA]
      simp only [hm, hg, pureK_m, rounds_rd, TMA, RR, IA, PA, RA0, RA1, RA2, RA3, RA4, RA5, RA6, RA7, RA8, RA9, RA10, Nat.reduceAdd, Nat.reduceMul, Nat.reduceEqDiff, Nat.reduceLeDiff, Nat.reduceLT, Int.reduceToNat, Int.reduceLT, Int.reduceLE, Int.reduceEq, Int.reduceNeg, Int.reduceAdd, Int.reduceSub, Int.reduceMul, reduceIte]
  | @one ex s a x hp ih =>
    intro hw hl b u hb hwu hlu v
    simp only [textT, List.length_cons] at hl
    obtain ⟨m, hm, hg⟩ := free_ev (.one ex s hp) hw (by simp only [textT, List.length_cons]; omega)
    have hg := hg v
    rw [fr] at hg
    have hlo := loop_is (.one ex s hp)
    obtain ⟨r, hr, hpr⟩ := ih hw.2 (by omega) b u hb hwu hlu v
    have hcl : closedL [.p [S [s], S [], .s ex 1 [a]], S [v], b] = true := by simp only [closedL, closed, hp.closed, hb.closed, Bool.and_self]
    by_cases h0 : fr v x = 0
    · refine ⟨.p [S [s], S [], .s ex 1 [a]], ?_, by rw [pt, if_pos h0]; exact .one ex s hp⟩
      rw [h0] at hg
      have hg : (m [v]).getD 0 = 0 := hg
      refine EE_few 3 T_put (by decide) (Nat.le_of_ble_eq_true rfl) hcl ?_
      rw [show opt 131 = [] from rfl]
      simp only [bodyOf, Tryd.f131, SA]
      simp only [hm, hg, give_is (.one ex s hp), hp.closed, pureK_m, rounds_rd, TMA, RR, IA, PA, RA0, RA1, RA2, RA3, RA4, RA5, RA6, RA7, RA8, RA9, RA10, Nat.reduceAdd, Nat.reduceMul, Nat.reduceEqDiff, Nat.reduceLeDiff, Nat.reduceLT, Int.reduceToNat, Int.reduceLT, Int.reduceLE, Int.reduceEq, Int.reduceNeg, Int.reduceAdd, Int.reduceSub, Int.reduceMul, reduceIte]
    · have hne : ¬ ((fr v x : Int) = 0) := by omega
      rw [pt, if_neg h0]
      cases hq : pt v u x with
      | none =>
        rw [hq] at hpr
        obtain rfl : r = nilP := hpr
        refine ⟨nilP, ?_, rfl⟩
        refine EE_few 3 T_put (by decide) (Nat.le_of_ble_eq_true rfl) hcl ?_
        rw [show opt 131 = [] from rfl]
        simp only [bodyOf, Tryd.f131, SA]
        simp only [hm, hg, hne, hlo, isLoop, hr, pureK_m, pure_nil, hp.closed, hb.closed, rounds_rd, TMA, RR, IA, PA, RA0, RA1, RA2, RA3, RA4, RA5, RA6, RA7, RA8, RA9, RA10, Nat.reduceAdd, Nat.reduceMul, Nat.reduceEqDiff, Nat.reduceLeDiff, Nat.reduceLT, Int.reduceToNat, Int.reduceLT, Int.reduceLE, Int.reduceEq, Int.reduceNeg, Int.reduceAdd, Int.reduceSub, Int.reduceMul, reduceIte]
      | some x' =>
        rw [hq] at hpr
        have hpr : IsP r x' := hpr
        refine ⟨.p [S [s], S [], .s false 1 [r]], ?_, .one false s hpr⟩
        refine EE_few 3 T_put (by decide) (Nat.le_of_ble_eq_true rfl) hcl ?_
        rw [show opt 131 = [] from rfl]
        simp only [bodyOf, Tryd.f131, SA]
        have q1 := hpr.ptr
        have q2 := hpr.leaf
        have q3 := hpr.closed
        have q4 := fun σ => pure_is (σ := σ) hpr
        simp only [hm, hg, hne, hlo, isLoop, hr, pureK_m, q1, q2, q3, q4, hp.closed, hb.closed, rounds_rd, TMA, RR, IA, PA, RA0, RA1, RA2, RA3, RA4, RA5, RA6, RA7, RA8, RA9, RA10, Nat.reduceAdd, Nat.reduceMul, Nat.reduceEqDiff, Nat.reduceLeDiff, Nat.reduceLT, Int.reduceToNat, Int.reduceLT, Int.reduceLE, Int.reduceEq, Int.reduceNeg, Int.reduceAdd, Int.reduceSub, Int.reduceMul, reduceIte]
        rw [app_s (by decide) rfl (leaf1 hpr) rfl (by omega) (by omega) (.inr rfl)]
        simp only [rounds_rd, RR, IA, PA, RA0, RA1, RA2, RA3, RA4, RA5, RA6, RA7, RA8, RA9, RA10, Nat.reduceAdd, Nat.reduceMul, Nat.reduceEqDiff, Nat.reduceLeDiff, Nat.reduceLT, Int.reduceToNat, Int.reduceLT, Int.reduceLE, Int.reduceEq, Int.reduceNeg, Int.reduceAdd, Int.reduceSub, Int.reduceMul, reduceIte]
        exact give_term (cs := [r]) (by rfl) (by rfl) (Nat.le_refl _) (by simp only [closedL, q3, Bool.and_self])
  | @two ex s a c x y hp kp ihx ihy =>
    intro hw hl b u hb hwu hlu v
    obtain ⟨m, hm, hg⟩ := free_ev (.two ex s hp kp) hw hl
    have hg := hg v
    rw [fr] at hg
    simp only [textT, List.length_cons, List.length_append, List.length_nil] at hl
    have hlo := loop_is (.two ex s hp kp)
    obtain ⟨r, hr, hpr⟩ := ihx hw.2.1 (by omega) b u hb hwu hlu v
    obtain ⟨r2, hr2, hpr2⟩ := ihy hw.2.2 (by omega) b u hb hwu hlu v
    have hcl : closedL [.p [S [s], S [], .s ex 2 [a, c]], S [v], b] = true := by simp only [closedL, closed, hp.closed, kp.closed, hb.closed, Bool.and_self]
    by_cases h0 : fr v x + fr v y = 0
    · refine ⟨.p [S [s], S [], .s ex 2 [a, c]], ?_, by rw [pt, if_pos h0]; exact .two ex s hp kp⟩
      rw [h0] at hg
      have hg : (m [v]).getD 0 = 0 := hg
      refine EE_few 3 T_put (by decide) (Nat.le_of_ble_eq_true rfl) hcl ?_
      rw [show opt 131 = [] from rfl]
      simp only [bodyOf, Tryd.f131, SA]
      simp only [hm, hg, give_is (.two ex s hp kp), hp.closed, kp.closed, pureK_m, rounds_rd, TMA, RR, IA, PA, RA0, RA1, RA2, RA3, RA4, RA5, RA6, RA7, RA8, RA9, RA10, Nat.reduceAdd, Nat.reduceMul, Nat.reduceEqDiff, Nat.reduceLeDiff, Nat.reduceLT, Int.reduceToNat, Int.reduceLT, Int.reduceLE, Int.reduceEq, Int.reduceNeg, Int.reduceAdd, Int.reduceSub, Int.reduceMul, reduceIte]
    · have hne : ¬ (((fr v x + fr v y : Nat) : Int) = 0) := by omega
      rw [pt, if_neg h0]
      cases hq : pt v u x with
      | none =>
        rw [hq] at hpr
        obtain rfl : r = nilP := hpr
        refine ⟨nilP, ?_, rfl⟩
        refine EE_few 3 T_put (by decide) (Nat.le_of_ble_eq_true rfl) hcl ?_
        rw [show opt 131 = [] from rfl]
        simp only [bodyOf, Tryd.f131, SA]
        simp only [hm, hg, hne, hlo, isLoop, hr, pureK_m, pure_nil, hp.closed, kp.closed, hb.closed, rounds_rd, TMA, RR, IA, PA, RA0, RA1, RA2, RA3, RA4, RA5, RA6, RA7, RA8, RA9, RA10, Nat.reduceAdd, Nat.reduceMul, Nat.reduceEqDiff, Nat.reduceLeDiff, Nat.reduceLT, Int.reduceToNat, Int.reduceLT, Int.reduceLE, Int.reduceEq, Int.reduceNeg, Int.reduceAdd, Int.reduceSub, Int.reduceMul, reduceIte]
      | some x' =>
        rw [hq] at hpr
        have hpr : IsP r x' := hpr
        have q1 := hpr.ptr
        have q2 := hpr.leaf
        have q3 := hpr.closed
        have q4 := fun σ => pure_is (σ := σ) hpr
        cases hq2 : pt v u y with
        | none =>
          rw [hq2] at hpr2
          obtain rfl : r2 = nilP := hpr2
          refine ⟨nilP, ?_, rfl⟩
          refine EE_few 3 T_put (by decide) (Nat.le_of_ble_eq_true rfl) hcl ?_
          rw [show opt 131 = [] from rfl]
          simp only [bodyOf, Tryd.f131, SA]
          simp only [hm, hg, hne, hlo, isLoop, hr, pureK_m, q1, q2, q3, q4, hp.closed, kp.closed, hb.closed, rounds_rd, TMA, RR, IA, PA, RA0, RA1, RA2, RA3, RA4, RA5, RA6, RA7, RA8, RA9, RA10, Nat.reduceAdd, Nat.reduceMul, Nat.reduceEqDiff, Nat.reduceLeDiff, Nat.reduceLT, Int.reduceToNat, Int.reduceLT, Int.reduceLE, Int.reduceEq, Int.reduceNeg, Int.reduceAdd, Int.reduceSub, Int.reduceMul, reduceIte]
          rw [app_s (by decide) rfl (leaf1 hpr) rfl (by omega) (by omega) (.inr rfl)]
          simp only [hlo, isLoop, hr2, pure_nil, hp.closed, kp.closed, hb.closed, rounds_rd, TMA, RR, IA, PA, RA0, RA1, RA2, RA3, RA4, RA5, RA6, RA7, RA8, RA9, RA10, Nat.reduceAdd, Nat.reduceMul, Nat.reduceEqDiff, Nat.reduceLeDiff, Nat.reduceLT, Int.reduceToNat, Int.reduceLT, Int.reduceLE, Int.reduceEq, Int.reduceNeg, Int.reduceAdd, Int.reduceSub, Int.reduceMul, reduceIte]
        | some y' =>
          rw [hq2] at hpr2
          have hpr2 : IsP r2 y' := hpr2
          have z1 := hpr2.ptr
          have z2 := hpr2.leaf
          have z3 := hpr2.closed
          have z4 := fun σ => pure_is (σ := σ) hpr2
          refine ⟨.p [S [s], S [], .s false 2 [r, r2]], ?_, .two false s hpr hpr2⟩
          refine EE_few 3 T_put (by decide) (Nat.le_of_ble_eq_true rfl) hcl ?_
          rw [show opt 131 = [] from rfl]
          simp only [bodyOf, Tryd.f131, SA]
          simp only [hm, hg, hne, hlo, isLoop, hr, pureK_m, q1, q2, q3, q4, hp.closed, kp.closed, hb.closed, rounds_rd, TMA, RR, IA, PA, RA0, RA1, RA2, RA3, RA4, RA5, RA6, RA7, RA8, RA9, RA10, Nat.reduceAdd, Nat.reduceMul, Nat.reduceEqDiff, Nat.reduceLeDiff, Nat.reduceLT, Int.reduceToNat, Int.reduceLT, Int.reduceLE, Int.reduceEq, Int.reduceNeg, Int.reduceAdd, Int.reduceSub, Int.reduceMul, reduceIte]
          rw [app_s (by decide) rfl (leaf1 hpr) rfl (by omega) (by omega) (.inr rfl)]
          simp only [hlo, isLoop, hr2, z1, z2, z3, z4, hp.closed, kp.closed, hb.closed, rounds_rd, TMA, RR, IA, PA, RA0, RA1, RA2, RA3, RA4, RA5, RA6, RA7, RA8, RA9, RA10, Nat.reduceAdd, Nat.reduceMul, Nat.reduceEqDiff, Nat.reduceLeDiff, Nat.reduceLT, Int.reduceToNat, Int.reduceLT, Int.reduceLE, Int.reduceEq, Int.reduceNeg, Int.reduceAdd, Int.reduceSub, Int.reduceMul, reduceIte]
          rw [app_w (by rfl) (by decide) rfl (leaf1 hpr2) rfl (by omega) (by omega) (by decide)]
          simp only [rounds_rd, TMA, RR, IA, PA, RA0, RA1, RA2, RA3, RA4, RA5, RA6, RA7, RA8, RA9, RA10, Nat.reduceAdd, Nat.reduceMul, Nat.reduceEqDiff, Nat.reduceLeDiff, Nat.reduceLT, Int.reduceToNat, Int.reduceLT, Int.reduceLE, Int.reduceEq, Int.reduceNeg, Int.reduceAdd, Int.reduceSub, Int.reduceMul, reduceIte]
          exact give_term (cs := [r, r2]) (by rfl) (by rfl) (Nat.le_refl _) (by simp only [closedL, q3, z3, Bool.and_self])
  | @loop ex s w a c x y hp kp ihx ihy =>
    intro hw hl b u hb hwu hlu v
    obtain ⟨m, hm, hg⟩ := free_ev (.loop ex s w hp kp) hw hl
    have hg := hg v
    simp only [textT, List.length_cons, List.length_append, List.length_nil] at hl
    have hlo := loop_is (.loop ex s w hp kp)
    obtain ⟨r, hr, hpr⟩ := ihx hw.2.2.1 (by omega) b u hb hwu hlu v
    obtain ⟨r2, hr2, hpr2⟩ := ihy hw.2.2.2 (by omega) b u hb hwu hlu v
    obtain ⟨m2, hm2, hg2⟩ := free_ev kp hw.2.2.2 (by omega)
    have hg2 := hg2 v
    obtain ⟨m3, hm3, hg3⟩ := free_ev hb hwu hlu
    have hg3 := hg3 w
    have hcl : closedL [.p [S [s], S [w], .s ex 2 [a, c]], S [v], b] = true := by simp only [closedL, closed, hp.closed, kp.closed, hb.closed, Bool.and_self]
    by_cases h0 : fr v (.loop s w x y) = 0
    · refine ⟨.p [S [s], S [w], .s ex 2 [a, c]], ?_, by rw [pt, if_pos h0]; exact .loop ex s w hp kp⟩
      rw [h0] at hg
      have hg : (m [v]).getD 0 = 0 := hg
      refine EE_few 3 T_put (by decide) (Nat.le_of_ble_eq_true rfl) hcl ?_
      rw [show opt 131 = [] from rfl]
      simp only [bodyOf, Tryd.f131, SA]
      simp only [hm, hg, give_is (.loop ex s w hp kp), hp.closed, kp.closed, pureK_m, rounds_rd, TMA, RR, IA, PA, RA0, RA1, RA2, RA3, RA4, RA5, RA6, RA7, RA8, RA9, RA10, Nat.reduceAdd, Nat.reduceMul, Nat.reduceEqDiff, Nat.reduceLeDiff, Nat.reduceLT, Int.reduceToNat, Int.reduceLT, Int.reduceLE, Int.reduceEq, Int.reduceNeg, Int.reduceAdd, Int.reduceSub, Int.reduceMul, reduceIte]
    · generalize hn : fr v (.loop s w x y) = n at hg h0
      have hne : ¬ ((n : Int) = 0) := by omega
      rw [pt, hn, if_neg h0]
      cases hq : pt v u x with
      | none =>
        rw [hq] at hpr
        obtain rfl : r = nilP := hpr
        refine ⟨nilP, ?_, rfl⟩
        refine EE_few 3 T_put (by decide) (Nat.le_of_ble_eq_true rfl) hcl ?_
        rw [show opt 131 = [] from rfl]
        simp only [bodyOf, Tryd.f131, SA]
        simp only [hm, hg, hne, hlo, isLoop, hr, pureK_m, pure_nil, hp.closed, kp.closed, hb.closed, rounds_rd, TMA, RR, IA, PA, RA0, RA1, RA2, RA3, RA4, RA5, RA6, RA7, RA8, RA9, RA10, Nat.reduceAdd, Nat.reduceMul, Nat.reduceEqDiff, Nat.reduceLeDiff, Nat.reduceLT, Int.reduceToNat, Int.reduceLT, Int.reduceLE, Int.reduceEq, Int.reduceNeg, Int.reduceAdd, Int.reduceSub, Int.reduceMul, reduceIte]
      | some x' =>
        rw [hq] at hpr
        have hpr : IsP r x' := hpr
        have q1 := hpr.ptr
        have q2 := hpr.leaf
        have q3 := hpr.closed
        have q4 := fun σ => pure_is (σ := σ) hpr
        by_cases hwv : w = v
        · rw [Option.bind_some, if_pos hwv]
          subst hwv
          have k2 := kp.leaf
          refine ⟨.p [S [s], S [w], .s false 2 [r, c]], ?_, .loop false s w hpr kp⟩
          refine EE_few 3 T_put (by decide) (Nat.le_of_ble_eq_true rfl) hcl ?_
          rw [show opt 131 = [] from rfl]
          simp only [bodyOf, Tryd.f131, SA]
          simp only [hm, hg, hne, hlo, isLoop, hr, pureK_m, q1, q2, q3, q4, hp.closed, kp.closed, hb.closed, rounds_rd, TMA, RR, IA, PA, RA0, RA1, RA2, RA3, RA4, RA5, RA6, RA7, RA8, RA9, RA10, Nat.reduceAdd, Nat.reduceMul, Nat.reduceEqDiff, Nat.reduceLeDiff, Nat.reduceLT, Int.reduceToNat, Int.reduceLT, Int.reduceLE, Int.reduceEq, Int.reduceNeg, Int.reduceAdd, Int.reduceSub, Int.reduceMul, reduceIte]
          rw [app_s (by decide) rfl (leaf1 hpr) rfl (by omega) (by omega) (.inr rfl)]
          simp only [hlo, isLoop, k2, hp.closed, kp.closed, hb.closed, rounds_rd, TMA, RR, IA, PA, RA0, RA1, RA2, RA3, RA4, RA5, RA6, RA7, RA8, RA9, RA10, Nat.reduceAdd, Nat.reduceMul, Nat.reduceEqDiff, Nat.reduceLeDiff, Nat.reduceLT, Int.reduceToNat, Int.reduceLT, Int.reduceLE, Int.reduceEq, Int.reduceNeg, Int.reduceAdd, Int.reduceSub, Int.reduceMul, reduceIte]
          rw [app_w (by rfl) (by decide) rfl (leaf1 kp) rfl (by omega) (by omega) (by decide)]
          simp only [rounds_rd, TMA, RR, IA, PA, RA0, RA1, RA2, RA3, RA4, RA5, RA6, RA7, RA8, RA9, RA10, Nat.reduceAdd, Nat.reduceMul, Nat.reduceEqDiff, Nat.reduceLeDiff, Nat.reduceLT, Int.reduceToNat, Int.reduceLT, Int.reduceLE, Int.reduceEq, Int.reduceNeg, Int.reduceAdd, Int.reduceSub, Int.reduceMul, reduceIte]
          exact give_term (cs := [r, c]) (by rfl) (by rfl) (Nat.le_refl _) (by simp only [closedL, q3, kp.closed, Bool.and_self])
        · rw [Option.bind_some, if_neg hwv]
          have c2 : ((0 : Int) < (fr v y : Int)) ↔ 0 < fr v y := by omega
          have c3 : ((0 : Int) < (fr w u : Int)) ↔ 0 < fr w u := by omega
          by_cases hb2 : 0 < fr v y ∧ 0 < fr w u
          · rw [if_pos hb2]
            refine ⟨nilP, ?_, rfl⟩
            refine EE_few 3 T_put (by decide) (Nat.le_of_ble_eq_true rfl) hcl ?_
            rw [show opt 131 = [] from rfl]
            simp only [bodyOf, Tryd.f131, SA]
            simp only [hm, hg, hne, hlo, isLoop, hr, pureK_m, q1, q2, q3, q4, hp.closed, kp.closed, hb.closed, rounds_rd, TMA, RR, IA, PA, RA0, RA1, RA2, RA3, RA4, RA5, RA6, RA7, RA8, RA9, RA10, Nat.reduceAdd, Nat.reduceMul, Nat.reduceEqDiff, Nat.reduceLeDiff, Nat.reduceLT, Int.reduceToNat, Int.reduceLT, Int.reduceLE, Int.reduceEq, Int.reduceNeg, Int.reduceAdd, Int.reduceSub, Int.reduceMul, reduceIte]
            rw [app_s (by decide) rfl (leaf1 hpr) rfl (by omega) (by omega) (.inr rfl)]
            simp only [hlo, isLoop, hwv, hm2, hg2, hm3, hg3, c2, c3, hb2.1, hb2.2, pureK_m, hp.closed, kp.closed, hb.closed, rounds_rd, TMA, RR, IA, PA, RA0, RA1, RA2, RA3, RA4, RA5, RA6, RA7, RA8, RA9, RA10, Nat.reduceAdd, Nat.reduceMul, Nat.reduceEqDiff, Nat.reduceLeDiff, Nat.reduceLT, Int.reduceToNat, Int.reduceLT, Int.reduceLE, Int.reduceEq, Int.reduceNeg, Int.reduceAdd, Int.reduceSub, Int.reduceMul, reduceIte]
          · rw [if_neg hb2]
            have hgo : (decide (0 < fr v y) && decide (0 < fr w u)) = false := by
              rw [Bool.and_eq_false_iff, decide_eq_false_iff_not, decide_eq_false_iff_not]
              by_cases z : 0 < fr v y
              · exact .inr fun h => hb2 ⟨z, h⟩
              · exact .inl z
            cases hq2 : pt v u y with
            | none =>
              rw [hq2] at hpr2
              obtain rfl : r2 = nilP := hpr2
              refine ⟨nilP, ?_, rfl⟩
              refine EE_few 3 T_put (by decide) (Nat.le_of_ble_eq_true rfl) hcl ?_
              rw [show opt 131 = [] from rfl]
              simp only [bodyOf, Tryd.f131, SA]
              simp only [hm, hg, hne, hlo, isLoop, hr, pureK_m, q1, q2, q3, q4, hp.closed, kp.closed, hb.closed, rounds_rd, TMA, RR, IA, PA, RA0, RA1, RA2, RA3, RA4, RA5, RA6, RA7, RA8, RA9, RA10, Nat.reduceAdd, Nat.reduceMul, Nat.reduceEqDiff, Nat.reduceLeDiff, Nat.reduceLT, Int.reduceToNat, Int.reduceLT, Int.reduceLE, Int.reduceEq, Int.reduceNeg, Int.reduceAdd, Int.reduceSub, Int.reduceMul, reduceIte]
              rw [app_s (by decide) rfl (leaf1 hpr) rfl (by omega) (by omega) (.inr rfl)]
              by_cases z : 0 < fr v y
              · have z3 : ¬ 0 < fr w u := fun h => hb2 ⟨z, h⟩
                simp only [hlo, isLoop, hwv, hm2, hg2, hm3, hg3, c2, c3, z, z3, hr2, pure_nil, pureK_m, hp.closed, kp.closed, hb.closed, rounds_rd, TMA, RR, IA, PA, RA0, RA1, RA2, RA3, RA4, RA5, RA6, RA7, RA8, RA9, RA10, Nat.reduceAdd, Nat.reduceMul, Nat.reduceEqDiff, Nat.reduceLeDiff, Nat.reduceLT, Int.reduceToNat, Int.reduceLT, Int.reduceLE, Int.reduceEq, Int.reduceNeg, Int.reduceAdd, Int.reduceSub, Int.reduceMul, reduceIte]
              · simp only [hlo, isLoop, hwv, hm2, hg2, hm3, hg3, c2, c3, z, hr2, pure_nil, pureK_m, hp.closed, kp.closed, hb.closed, rounds_rd, TMA, RR, IA, PA, RA0, RA1, RA2, RA3, RA4, RA5, RA6, RA7, RA8, RA9, RA10, Nat.reduceAdd, Nat.reduceMul, Nat.reduceEqDiff, Nat.reduceLeDiff, Nat.reduceLT, Int.reduceToNat, Int.reduceLT, Int.reduceLE, Int.reduceEq, Int.reduceNeg, Int.reduceAdd, Int.reduceSub, Int.reduceMul, reduceIte]
            | some y' =>
              rw [hq2] at hpr2
              have hpr2 : IsP r2 y' := hpr2
              have z1 := hpr2.ptr
              have z2 := hpr2.leaf
              have z3 := hpr2.closed
              have z4 := fun σ => pure_is (σ := σ) hpr2
              refine ⟨.p [S [s], S [w], .s false 2 [r, r2]], ?_, .loop false s w hpr hpr2⟩
              refine EE_few 3 T_put (by decide) (Nat.le_of_ble_eq_true rfl) hcl ?_
              rw [show opt 131 = [] from rfl]
              simp only [bodyOf, Tryd.f131, SA]
              simp only [hm, hg, hne, hlo, isLoop, hr, pureK_m, q1, q2, q3, q4, hp.closed, kp.closed, hb.closed, rounds_rd, TMA, RR, IA, PA, RA0, RA1, RA2, RA3, RA4, RA5, RA6, RA7, RA8, RA9, RA10, Nat.reduceAdd, Nat.reduceMul, Nat.reduceEqDiff, Nat.reduceLeDiff, Nat.reduceLT, Int.reduceToNat, Int.reduceLT, Int.reduceLE, Int.reduceEq, Int.reduceNeg, Int.reduceAdd, Int.reduceSub, Int.reduceMul, reduceIte]
              rw [app_s (by decide) rfl (leaf1 hpr) rfl (by omega) (by omega) (.inr rfl)]
              by_cases z : 0 < fr v y
              · have z5 : ¬ 0 < fr w u := fun h => hb2 ⟨z, h⟩
                simp only [hlo, isLoop, hwv, hm2, hg2, hm3, hg3, c2, c3, z, z5, hr2, z1, z2, z3, z4, pureK_m, hp.closed, kp.closed, hb.closed, rounds_rd, TMA, RR, IA, PA, RA0, RA1, RA2, RA3, RA4, RA5, RA6, RA7, RA8, RA9, RA10, Nat.reduceAdd, Nat.reduceMul, Nat.reduceEqDiff, Nat.reduceLeDiff, Nat.reduceLT, Int.reduceToNat, Int.reduceLT, Int.reduceLE, Int.reduceEq, Int.reduceNeg, Int.reduceAdd, Int.reduceSub, Int.reduceMul, reduceIte]
                rw [app_w (by rfl) (by decide) rfl (leaf1 hpr2) rfl (by omega) (by omega) (by decide)]
                simp only [rounds_rd, TMA, RR, IA, PA, RA0, RA1, RA2, RA3, RA4, RA5, RA6, RA7, RA8, RA9, RA10, Nat.reduceAdd, Nat.reduceMul, Nat.reduceEqDiff, Nat.reduceLeDiff, Nat.reduceLT, Int.reduceToNat, Int.reduceLT, Int.reduceLE, Int.reduceEq, Int.reduceNeg, Int.reduceAdd, Int.reduceSub, Int.reduceMul, reduceIte]
                exact give_term (cs := [r, r2]) (by rfl) (by rfl) (Nat.le_refl _) (by simp only [closedL, q3, z3, Bool.and_self])
              · simp only [hlo, isLoop, hwv, hm2, hg2, hm3, hg3, c2, c3, z, hr2, z1, z2, z3, z4, pureK_m, hp.closed, kp.closed, hb.closed, rounds_rd, TMA, RR, IA, PA, RA0, RA1, RA2, RA3, RA4, RA5, RA6, RA7, RA8, RA9, RA10, Nat.reduceAdd, Nat.reduceMul, Nat.reduceEqDiff, Nat.reduceLeDiff, Nat.reduceLT, Int.reduceToNat, Int.reduceLT, Int.reduceLE, Int.reduceEq, Int.reduceNeg, Int.reduceAdd, Int.reduceSub, Int.reduceMul, reduceIte]
                rw [app_w (by rfl) (by decide) rfl (leaf1 hpr2) rfl (by omega) (by omega) (by decide)]
                simp only [rounds_rd, TMA, RR, IA, PA, RA0, RA1, RA2, RA3, RA4, RA5, RA6, RA7, RA8, RA9, RA10, Nat.reduceAdd, Nat.reduceMul, Nat.reduceEqDiff, Nat.reduceLeDiff, Nat.reduceLT, Int.reduceToNat, Int.reduceLT, Int.reduceLE, Int.reduceEq, Int.reduceNeg, Int.reduceAdd, Int.reduceSub, Int.reduceMul, reduceIte]
                exact give_term (cs := [r, r2]) (by rfl) (by rfl) (Nat.le_refl _) (by simp only [closedL, q3, z3, Bool.and_self])
end
end Go.Proofs.YtegbkihgnofkfaaDoor.Ev
