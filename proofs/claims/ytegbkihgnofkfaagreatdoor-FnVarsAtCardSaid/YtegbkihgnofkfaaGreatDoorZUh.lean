/-
Texts Uh to Uh of the work.
-/
import Derived.Test.YtegbkihgnofkfaaGreatDoorZUg
import Derived.Test.YtegbkihgnofkfaaGreatDoorZVb
/-
Code: what the reference's builder does at an instruction.
-/
namespace Go.Proofs.YtegbkihgnofkfaaGreatDoor.Ev
section
set_option linter.unusedVariables false
set_option linter.unusedSimpArgs false
open Go Go.RowKit
set_option linter.unusedVariables false
set_option linter.unusedSimpArgs false
theorem do_a {p : PS} {a b c : RS} (h : BR p a b c) (x : UInt8) (hx : isDig x = true ∨ isVar x = true) :
    EE 87 [lent 118 [rsV a, rsV b, rsV c], S [x]] = some (.t [B true, .t [lent 118 [rsV (pushR a (encN (leafI x))), rsV b, rsV c], S [x]]]) := by
  have ho := h.ok
  refine EE_rows (os := [a, b, c]) (xs := [S [x]]) T_do rfl (Nat.le_of_ble_eq_true rfl) (in3 ho.ha ho.hb ho.hc) rfl ?_
  intro ds σ k L hR hn hσ hL hk1 hk
  rw [show opt 87 = [] from rfl]
  simp only [bodyOf, Tryz.f87, SA]
  have hkd : EE 12 [S [x]] = some (.v (.int .u8 97)) := by rw [l7Kind_ev, kind_a hx]; rfl
  have hpu := push_br h (leafI x)
  have hok := in3 (pushR_ok ho.ha ho.aS (encN_len (leafI x)) (encN_closed _)) ho.hb ho.hc
  cases hd : isDig x
  · have e : leafI x = .var x := by simp [leafI, hd]
    rw [e] at hpu hok ⊢
    simp only [hkd, l1In_ev, in_dig, wrap_u8, hd, IA, PA, RA0, RA1, RA2, RA3, RA4, RA5, RA6, RA7, RA8, RA9, RA10, Nat.reduceAdd, Nat.reduceMul, Nat.reduceEqDiff, Nat.reduceLeDiff, Nat.reduceLT, Int.reduceToNat, Int.reduceLT, Int.reduceLE, Int.reduceEq, Int.reduceNeg, Int.reduceAdd, Int.reduceSub, Int.reduceMul, reduceIte]
    simp only [encN] at hpu
    rw [call_ob_eq (os' := [pushR a (encN (.var x)), b, c]) (by rfl) hσ hR.leaf hn (by rfl) (by exact hpu) hok (by rfl) (Nat.le_of_ble_eq_true rfl)]
    generalize hτ : aftS _ _ _ _ _ _ = τ
    obtain ⟨ds', L', f1, f2, f3, f4, f5⟩ := aft_of hτ hok (by omega)
    clear hτ
    simp only [f1, IA, PA, RA0, RA1, RA2, RA3, RA4, RA5, RA6, RA7, RA8, RA9, RA10, Nat.reduceAdd, Nat.reduceMul, Nat.reduceEqDiff, Nat.reduceLeDiff, Nat.reduceLT, Int.reduceToNat, Int.reduceLT, Int.reduceLE, Int.reduceEq, Int.reduceNeg, Int.reduceAdd, Int.reduceSub, Int.reduceMul, reduceIte]
    refine out_rows_one (ds := ds') (ps := [rsV (pushR a (encN (.var x))), rsV b, rsV c]) (L := L') ?_ (by rfl) (by exact f1) f2.leaf f3 (by rfl)
    simp only [IA, PA, RA0, RA1, RA2, RA3, RA4, RA5, RA6, RA7, RA8, RA9, RA10, Nat.reduceAdd, Nat.reduceMul, Nat.reduceEqDiff, Nat.reduceLeDiff, Nat.reduceLT, Int.reduceToNat, Int.reduceLT, Int.reduceLE, Int.reduceEq, Int.reduceNeg, Int.reduceAdd, Int.reduceSub, Int.reduceMul, reduceIte]
  · have e : leafI x = .dig x := by simp [leafI, hd]
    rw [e] at hpu hok ⊢
    simp only [hkd, l1In_ev, in_dig, wrap_u8, hd, IA, PA, RA0, RA1, RA2, RA3, RA4, RA5, RA6, RA7, RA8, RA9, RA10, Nat.reduceAdd, Nat.reduceMul, Nat.reduceEqDiff, Nat.reduceLeDiff, Nat.reduceLT, Int.reduceToNat, Int.reduceLT, Int.reduceLE, Int.reduceEq, Int.reduceNeg, Int.reduceAdd, Int.reduceSub, Int.reduceMul, reduceIte]
    simp only [encN] at hpu
    rw [call_ob_eq (os' := [pushR a (encN (.dig x)), b, c]) (by rfl) hσ hR.leaf hn (by rfl) (by exact hpu) hok (by rfl) (Nat.le_of_ble_eq_true rfl)]
    generalize hτ : aftS _ _ _ _ _ _ = τ
    obtain ⟨ds', L', f1, f2, f3, f4, f5⟩ := aft_of hτ hok (by omega)
    clear hτ
    simp only [f1, IA, PA, RA0, RA1, RA2, RA3, RA4, RA5, RA6, RA7, RA8, RA9, RA10, Nat.reduceAdd, Nat.reduceMul, Nat.reduceEqDiff, Nat.reduceLeDiff, Nat.reduceLT, Int.reduceToNat, Int.reduceLT, Int.reduceLE, Int.reduceEq, Int.reduceNeg, Int.reduceAdd, Int.reduceSub, Int.reduceMul, reduceIte]
    refine out_rows_one (ds := ds') (ps := [rsV (pushR a (encN (.dig x))), rsV b, rsV c]) (L := L') ?_ (by rfl) (by exact f1) f2.leaf f3 (by rfl)
    simp only [IA, PA, RA0, RA1, RA2, RA3, RA4, RA5, RA6, RA7, RA8, RA9, RA10, Nat.reduceAdd, Nat.reduceMul, Nat.reduceEqDiff, Nat.reduceLeDiff, Nat.reduceLT, Int.reduceToNat, Int.reduceLT, Int.reduceLE, Int.reduceEq, Int.reduceNeg, Int.reduceAdd, Int.reduceSub, Int.reduceMul, reduceIte]
theorem do_S {p : PS} {a b c : RS} (h : BR p a b c) (x : UInt8) (hx : isOne x = true) {y : T} {r : List T} (hp : popP p.st (baseP p.lp) = some (y, r)) :
    EE 87 [lent 118 [rsV a, rsV b, rsV c], S [x]] = some (.t [B true, .t [lent 118 [rsV (pushR (popR a (r.reverse.flatMap encN)) (encN (.one x y))), rsV b, rsV c], S [x]]]) := by
  have ho := h.ok
  have hpo := pop_br h hp
  obtain ⟨hs, hle⟩ := popP_some hp
  have h1 := h.popped hs
  have ho1 := h1.ok
  have hpu := push_br h1 (.one x y)
  have hok1 := in3 ho1.ha ho1.hb ho1.hc
  have hok := in3 (pushR_ok ho1.ha ho1.aS (encN_len (.one x y)) (encN_closed _)) ho1.hb ho1.hc
  refine EE_rows (os := [a, b, c]) (xs := [S [x]]) T_do rfl (Nat.le_of_ble_eq_true rfl) (in3 ho.ha ho.hb ho.hc) rfl ?_
  intro ds σ k L hR hn hσ hL hk1 hk
  rw [show opt 87 = [] from rfl]
  simp only [bodyOf, Tryz.f87, SA]
  have hkd : EE 12 [S [x]] = some (.v (.int .u8 83)) := by rw [l7Kind_ev, kind_S hx]; rfl
  simp only [hkd, IA, PA, RA0, RA1, RA2, RA3, RA4, RA5, RA6, RA7, RA8, RA9, RA10, Nat.reduceAdd, Nat.reduceMul, Nat.reduceEqDiff, Nat.reduceLeDiff, Nat.reduceLT, Int.reduceToNat, Int.reduceLT, Int.reduceLE, Int.reduceEq, Int.reduceNeg, Int.reduceAdd, Int.reduceSub, Int.reduceMul, reduceIte]
  rw [call_ob_eq (os' := [popR a (r.reverse.flatMap encN), b, c]) (by rfl) hσ hR.leaf hn (by rfl) (by exact hpo) hok1 (by simp only [closed, closedL, encN_closed, Bool.and_self]) (by simp only [room, closed, closedL, encN_closed, Bool.and_self]; exact Nat.le_of_ble_eq_true rfl)]
  generalize hτ : aftS _ _ _ _ _ _ = τ
  obtain ⟨ds1, L1, f11, f12, f13, f14, f15⟩ := aft_of hτ hok1 (by omega)
  clear hτ
  simp only [List.length_cons, List.length_nil] at f14
  simp only [f11, TMA, IA, PA, RA0, RA1, RA2, RA3, RA4, RA5, RA6, RA7, RA8, RA9, RA10, Nat.reduceAdd, Nat.reduceMul, Nat.reduceEqDiff, Nat.reduceLeDiff, Nat.reduceLT, Int.reduceToNat, Int.reduceLT, Int.reduceLE, Int.reduceEq, Int.reduceNeg, Int.reduceAdd, Int.reduceSub, Int.reduceMul, reduceIte]
  rw [call_ob_eq (os' := [pushR (popR a (r.reverse.flatMap encN)) (encN (.one x y)), b, c]) (by rfl) (by simp only [upd]; repeat rw [if_neg (by omega)]; exact f11) (f12.frame (fun r hr => by have := f14 r hr; simp only [upd]; repeat rw [if_neg (by omega)])).leaf f13 (by simp only [List.all_cons, List.all_nil, goes, closed, closedL, closedL_append, encN_closed, Bool.and_self]) (by exact hpu) hok (by rfl) ((Nat.le_of_ble_eq_true rfl))]
  generalize hτ2 : aftS _ _ _ _ _ _ = τ2
  obtain ⟨ds2, L2, f21, f22, f23, f24, f25⟩ := aft_of hτ2 hok (by omega)
  clear hτ2
  simp only [List.length_cons, List.length_nil] at f24
  simp only [f21, TMA, IA, PA, RA0, RA1, RA2, RA3, RA4, RA5, RA6, RA7, RA8, RA9, RA10, Nat.reduceAdd, Nat.reduceMul, Nat.reduceEqDiff, Nat.reduceLeDiff, Nat.reduceLT, Int.reduceToNat, Int.reduceLT, Int.reduceLE, Int.reduceEq, Int.reduceNeg, Int.reduceAdd, Int.reduceSub, Int.reduceMul, reduceIte]
  refine out_rows_one (x := B true) (ds := ds2) (ps := [rsV (pushR (popR a (r.reverse.flatMap encN)) (encN (.one x y))), rsV b, rsV c]) (L := L2) ?_ (by rfl) (by exact f21) f22.leaf f23 (by rfl)
  simp only [IA, PA, RA0, RA1, RA2, RA3, RA4, RA5, RA6, RA7, RA8, RA9, RA10, Nat.reduceAdd, Nat.reduceMul, Nat.reduceEqDiff, Nat.reduceLeDiff, Nat.reduceLT, Int.reduceToNat, Int.reduceLT, Int.reduceLE, Int.reduceEq, Int.reduceNeg, Int.reduceAdd, Int.reduceSub, Int.reduceMul, reduceIte]
theorem do_S_no {p : PS} {a b c : RS} (h : BR p a b c) (x : UInt8) (hx : isOne x = true) (hb : baseP p.lp < 1000000000) (hp : popP p.st (baseP p.lp) = none) :
    EE 87 [lent 118 [rsV a, rsV b, rsV c], S [x]] = some (.t [B false, .t [lent 118 [rsV (pushR a [U x, U 0, .s true 1 zeroN]), rsV b, rsV c], S [x]]]) := by
  have ho := h.ok
  have hpo := pop_br_none h hb hp
  have hc3 : ([U x, U 0, .s true 1 zeroN] : List AV).length = 3 := rfl
  have hcc : closedL [U x, U 0, .s true 1 zeroN] = true := rfl
  have hpu := push_ok a b c ho [U x, U 0, .s true 1 zeroN] hc3 rfl hcc
  have hok1 := in3 ho.ha ho.hb ho.hc
  have hok := in3 (pushR_ok ho.ha ho.aS hc3 hcc) ho.hb ho.hc
  refine EE_rows (os := [a, b, c]) (xs := [S [x]]) T_do rfl (Nat.le_of_ble_eq_true rfl) (in3 ho.ha ho.hb ho.hc) rfl ?_
  intro ds σ k L hR hn hσ hL hk1 hk
  rw [show opt 87 = [] from rfl]
  simp only [bodyOf, Tryz.f87, SA]
  have hkd : EE 12 [S [x]] = some (.v (.int .u8 83)) := by rw [l7Kind_ev, kind_S hx]; rfl
  simp only [hkd, IA, PA, RA0, RA1, RA2, RA3, RA4, RA5, RA6, RA7, RA8, RA9, RA10, Nat.reduceAdd, Nat.reduceMul, Nat.reduceEqDiff, Nat.reduceLeDiff, Nat.reduceLT, Int.reduceToNat, Int.reduceLT, Int.reduceLE, Int.reduceEq, Int.reduceNeg, Int.reduceAdd, Int.reduceSub, Int.reduceMul, reduceIte]
  rw [call_ob_eq (os' := [a, b, c]) (by rfl) hσ hR.leaf hn (by rfl) (by exact hpo) hok1 (by rfl) (by simp only [room, closed, closedL, zeroN, Bool.and_self]; exact Nat.le_of_ble_eq_true rfl)]
  generalize hτ : aftS _ _ _ _ _ _ = τ
  obtain ⟨ds1, L1, f11, f12, f13, f14, f15⟩ := aft_of hτ hok1 (by omega)
  clear hτ
  simp only [List.length_cons, List.length_nil] at f14
  simp only [f11, zeroN, TMA, IA, PA, RA0, RA1, RA2, RA3, RA4, RA5, RA6, RA7, RA8, RA9, RA10, Nat.reduceAdd, Nat.reduceMul, Nat.reduceEqDiff, Nat.reduceLeDiff, Nat.reduceLT, Int.reduceToNat, Int.reduceLT, Int.reduceLE, Int.reduceEq, Int.reduceNeg, Int.reduceAdd, Int.reduceSub, Int.reduceMul, reduceIte]
  rw [call_ob_eq (os' := [pushR a [U x, U 0, .s true 1 zeroN], b, c]) (by rfl) (by simp only [upd]; repeat rw [if_neg (by omega)]; exact f11) (f12.frame (fun r hr => by have := f14 r hr; simp only [upd]; repeat rw [if_neg (by omega)])).leaf f13 (by rfl) (by exact hpu) hok (by rfl) ((Nat.le_of_ble_eq_true rfl))]
  generalize hτ2 : aftS _ _ _ _ _ _ = τ2
  obtain ⟨ds2, L2, f21, f22, f23, f24, f25⟩ := aft_of hτ2 hok (by omega)
  clear hτ2
  simp only [List.length_cons, List.length_nil] at f24
  simp only [f21, TMA, IA, PA, RA0, RA1, RA2, RA3, RA4, RA5, RA6, RA7, RA8, RA9, RA10, Nat.reduceAdd, Nat.reduceMul, Nat.reduceEqDiff, Nat.reduceLeDiff, Nat.reduceLT, Int.reduceToNat, Int.reduceLT, Int.reduceLE, Int.reduceEq, Int.reduceNeg, Int.reduceAdd, Int.reduceSub, Int.reduceMul, reduceIte]
  refine out_rows_one (x := B false) (ds := ds2) (ps := [rsV (pushR a [U x, U 0, .s true 1 zeroN]), rsV b, rsV c]) (L := L2) ?_ (by rfl) (by exact f21) f22.leaf f23 (by rfl)
  simp only [IA, PA, RA0, RA1, RA2, RA3, RA4, RA5, RA6, RA7, RA8, RA9, RA10, Nat.reduceAdd, Nat.reduceMul, Nat.reduceEqDiff, Nat.reduceLeDiff, Nat.reduceLT, Int.reduceToNat, Int.reduceLT, Int.reduceLE, Int.reduceEq, Int.reduceNeg, Int.reduceAdd, Int.reduceSub, Int.reduceMul, reduceIte]
theorem do_2 {p : PS} {a b c : RS} (h : BR p a b c) (x : UInt8) (hx : isTwo x = true) {y z : T} {r r2 : List T} (hp : popP p.st (baseP p.lp) = some (y, r)) (hq : popP r (baseP p.lp) = some (z, r2)) :
    EE 87 [lent 118 [rsV a, rsV b, rsV c], S [x]] = some (.t [B true, .t [lent 118 [rsV (pushR (popR (popR a (r.reverse.flatMap encN)) (r2.reverse.flatMap encN)) (encN (.two x z y))), rsV b, rsV c], S [x]]]) := by
  have ho := h.ok
  have hpo := pop_br h hp
  obtain ⟨hs, hle⟩ := popP_some hp
  have h1 := h.popped hs
  have ho1 := h1.ok
  have hpo2 := pop_br h1 hq
  obtain ⟨hs2, hle2⟩ := popP_some hq
  have h2 := h1.popped hs2
  have ho2 := h2.ok
  have hpu := push_br h2 (.two x z y)
  have hok1 := in3 ho1.ha ho1.hb ho1.hc
  have hok2 := in3 ho2.ha ho2.hb ho2.hc
  have hok := in3 (pushR_ok ho2.ha ho2.aS (encN_len (.two x z y)) (encN_closed _)) ho2.hb ho2.hc
  refine EE_rows (os := [a, b, c]) (xs := [S [x]]) T_do rfl (Nat.le_of_ble_eq_true rfl) (in3 ho.ha ho.hb ho.hc) rfl ?_
  intro ds σ k L hR hn hσ hL hk1 hk
  rw [show opt 87 = [] from rfl]
  simp only [bodyOf, Tryz.f87, SA]
  have hkd : EE 12 [S [x]] = some (.v (.int .u8 43)) := by rw [l7Kind_ev, kind_2 hx]; rfl
  simp only [hkd, IA, PA, RA0, RA1, RA2, RA3, RA4, RA5, RA6, RA7, RA8, RA9, RA10, Nat.reduceAdd, Nat.reduceMul, Nat.reduceEqDiff, Nat.reduceLeDiff, Nat.reduceLT, Int.reduceToNat, Int.reduceLT, Int.reduceLE, Int.reduceEq, Int.reduceNeg, Int.reduceAdd, Int.reduceSub, Int.reduceMul, reduceIte]
  rw [call_ob_eq (os' := [popR a (r.reverse.flatMap encN), b, c]) (by rfl) hσ hR.leaf hn (by rfl) (by exact hpo) hok1 (by simp only [closed, closedL, encN_closed, Bool.and_self]) (by simp only [room, closed, closedL, encN_closed, Bool.and_self]; exact Nat.le_of_ble_eq_true rfl)]
  generalize hτ : aftS _ _ _ _ _ _ = τ
  obtain ⟨ds1, L1, f11, f12, f13, f14, f15⟩ := aft_of hτ hok1 (by omega)
  clear hτ
  simp only [List.length_cons, List.length_nil] at f14
  simp only [f11, TMA, IA, PA, RA0, RA1, RA2, RA3, RA4, RA5, RA6, RA7, RA8, RA9, RA10, Nat.reduceAdd, Nat.reduceMul, Nat.reduceEqDiff, Nat.reduceLeDiff, Nat.reduceLT, Int.reduceToNat, Int.reduceLT, Int.reduceLE, Int.reduceEq, Int.reduceNeg, Int.reduceAdd, Int.reduceSub, Int.reduceMul, reduceIte]
  rw [call_ob_eq (os' := [popR (popR a (r.reverse.flatMap encN)) (r2.reverse.flatMap encN), b, c]) (by rfl) (by simp only [upd]; repeat rw [if_neg (by omega)]; exact f11) (f12.frame (fun r hr => by have := f14 r hr; simp only [upd]; repeat rw [if_neg (by omega)])).leaf f13 (by rfl) (by exact hpo2) hok2 (by simp only [closed, closedL, encN_closed, Bool.and_self]) (by simp only [room, closed, closedL, encN_closed, Bool.and_self]; exact Nat.le_of_ble_eq_true rfl)]
  generalize hτ2 : aftS _ _ _ _ _ _ = τ2
  obtain ⟨ds2, L2, f21, f22, f23, f24, f25⟩ := aft_of hτ2 hok2 (by omega)
  clear hτ2
  simp only [List.length_cons, List.length_nil] at f24
  have hbx : τ2 (k + 4 + 8 + 8 + 8 + 8 + 20) = some (.ob 66 (encN y)) := by
    rw [f25 _ (by omega) (fun hm => by have := f14 _ hm; omega) (.inl (by omega)), upd, if_pos rfl]
  have hne : ¬ (k = k + 32) := by omega
  simp only [f21, hbx, hne, TMA, IA, PA, RA0, RA1, RA2, RA3, RA4, RA5, RA6, RA7, RA8, RA9, RA10, Nat.reduceAdd, Nat.reduceMul, Nat.reduceEqDiff, Nat.reduceLeDiff, Nat.reduceLT, Int.reduceToNat, Int.reduceLT, Int.reduceLE, Int.reduceEq, Int.reduceNeg, Int.reduceAdd, Int.reduceSub, Int.reduceMul, reduceIte]
  rw [call_ob_eq (os' := [pushR (popR (popR a (r.reverse.flatMap encN)) (r2.reverse.flatMap encN)) (encN (.two x z y)), b, c]) (by rfl) (by simp only [upd]; repeat rw [if_neg (by omega)]; exact f21) (f22.frame (fun r hr => by have := f24 r hr; simp only [upd]; repeat rw [if_neg (by omega)])).leaf f23 (by simp only [List.all_cons, List.all_nil, goes, closed, closedL, closedL_append, encN_closed, Bool.and_self]) (by exact hpu) hok (by rfl) ((Nat.le_of_ble_eq_true rfl))]
  generalize hτ3 : aftS _ _ _ _ _ _ = τ3
  obtain ⟨ds3, L3, f31, f32, f33, f34, f35⟩ := aft_of hτ3 hok (by omega)
  clear hτ3
  simp only [List.length_cons, List.length_nil] at f34
  simp only [f31, TMA, IA, PA, RA0, RA1, RA2, RA3, RA4, RA5, RA6, RA7, RA8, RA9, RA10, Nat.reduceAdd, Nat.reduceMul, Nat.reduceEqDiff, Nat.reduceLeDiff, Nat.reduceLT, Int.reduceToNat, Int.reduceLT, Int.reduceLE, Int.reduceEq, Int.reduceNeg, Int.reduceAdd, Int.reduceSub, Int.reduceMul, reduceIte]
  refine out_rows_one (x := B true) (ds := ds3) (ps := [rsV (pushR (popR (popR a (r.reverse.flatMap encN)) (r2.reverse.flatMap encN)) (encN (.two x z y))), rsV b, rsV c]) (L := L3) ?_ (by rfl) (by exact f31) f32.leaf f33 (by rfl)
  simp only [IA, PA, RA0, RA1, RA2, RA3, RA4, RA5, RA6, RA7, RA8, RA9, RA10, Nat.reduceAdd, Nat.reduceMul, Nat.reduceEqDiff, Nat.reduceLeDiff, Nat.reduceLT, Int.reduceToNat, Int.reduceLT, Int.reduceLE, Int.reduceEq, Int.reduceNeg, Int.reduceAdd, Int.reduceSub, Int.reduceMul, reduceIte]
theorem do_2_no {p : PS} {a b c : RS} (h : BR p a b c) (x : UInt8) (hx : isTwo x = true) (hb : baseP p.lp < 1000000000) (hp : popP p.st (baseP p.lp) = none) :
    EE 87 [lent 118 [rsV a, rsV b, rsV c], S [x]] = some (.t [B false, .t [lent 118 [rsV (pushR a [U x, U 0, .s true 2 (zeroN ++ zeroN)]), rsV b, rsV c], S [x]]]) := by
  have ho := h.ok
  have hpo := pop_br_none h hb hp
  have hc3 : ([U x, U 0, .s true 2 (zeroN ++ zeroN)] : List AV).length = 3 := rfl
  have hcc : closedL [U x, U 0, .s true 2 (zeroN ++ zeroN)] = true := rfl
  have hpu := push_ok a b c ho [U x, U 0, .s true 2 (zeroN ++ zeroN)] hc3 rfl hcc
  have hok1 := in3 ho.ha ho.hb ho.hc
  have hok := in3 (pushR_ok ho.ha ho.aS hc3 hcc) ho.hb ho.hc
  refine EE_rows (os := [a, b, c]) (xs := [S [x]]) T_do rfl (Nat.le_of_ble_eq_true rfl) (in3 ho.ha ho.hb ho.hc) rfl ?_
  intro ds σ k L hR hn hσ hL hk1 hk
  rw [show opt 87 = [] from rfl]
  simp only [bodyOf, Tryz.f87, SA]
  have hkd : EE 12 [S [x]] = some (.v (.int .u8 43)) := by rw [l7Kind_ev, kind_2 hx]; rfl
  simp only [hkd, IA, PA, RA0, RA1, RA2, RA3, RA4, RA5, RA6, RA7, RA8, RA9, RA10, Nat.reduceAdd, Nat.reduceMul, Nat.reduceEqDiff, Nat.reduceLeDiff, Nat.reduceLT, Int.reduceToNat, Int.reduceLT, Int.reduceLE, Int.reduceEq, Int.reduceNeg, Int.reduceAdd, Int.reduceSub, Int.reduceMul, reduceIte]
  rw [call_ob_eq (os' := [a, b, c]) (by rfl) hσ hR.leaf hn (by rfl) (by exact hpo) hok1 (by rfl) (by simp only [room, closed, closedL, zeroN, Bool.and_self]; exact Nat.le_of_ble_eq_true rfl)]
  generalize hτ : aftS _ _ _ _ _ _ = τ
  obtain ⟨ds1, L1, f11, f12, f13, f14, f15⟩ := aft_of hτ hok1 (by omega)
  clear hτ
  simp only [List.length_cons, List.length_nil] at f14
  simp only [f11, zeroN, TMA, IA, PA, RA0, RA1, RA2, RA3, RA4, RA5, RA6, RA7, RA8, RA9, RA10, Nat.reduceAdd, Nat.reduceMul, Nat.reduceEqDiff, Nat.reduceLeDiff, Nat.reduceLT, Int.reduceToNat, Int.reduceLT, Int.reduceLE, Int.reduceEq, Int.reduceNeg, Int.reduceAdd, Int.reduceSub, Int.reduceMul, reduceIte]
  rw [call_ob_eq (os' := [a, b, c]) (by rfl) (by simp only [upd]; repeat rw [if_neg (by omega)]; exact f11) (f12.frame (fun r hr => by have := f14 r hr; simp only [upd]; repeat rw [if_neg (by omega)])).leaf f13 (by rfl) (by exact hpo) hok1 (by rfl) (by simp only [room, closed, closedL, zeroN, Bool.and_self]; exact Nat.le_of_ble_eq_true rfl)]
  generalize hτ2 : aftS _ _ _ _ _ _ = τ2
  obtain ⟨ds2, L2, f21, f22, f23, f24, f25⟩ := aft_of hτ2 hok1 (by omega)
  clear hτ2
  simp only [List.length_cons, List.length_nil] at f24
  have hbx : τ2 (k + 4 + 8 + 8 + 8 + 8 + 20) = some (.ob 66 ([U 0, U 0, .s true 0 []])) := by
    rw [f25 _ (by omega) (fun hm => by have := f14 _ hm; omega) (.inl (by omega)), upd, if_pos rfl]
  have hne : ¬ (k = k + 32) := by omega
  simp only [f21, hbx, hne, zeroN, TMA, IA, PA, RA0, RA1, RA2, RA3, RA4, RA5, RA6, RA7, RA8, RA9, RA10, Nat.reduceAdd, Nat.reduceMul, Nat.reduceEqDiff, Nat.reduceLeDiff, Nat.reduceLT, Int.reduceToNat, Int.reduceLT, Int.reduceLE, Int.reduceEq, Int.reduceNeg, Int.reduceAdd, Int.reduceSub, Int.reduceMul, reduceIte]
  rw [call_ob_eq (os' := [pushR a [U x, U 0, .s true 2 (zeroN ++ zeroN)], b, c]) (by rfl) (by simp only [upd]; repeat rw [if_neg (by omega)]; exact f21) (f22.frame (fun r hr => by have := f24 r hr; simp only [upd]; repeat rw [if_neg (by omega)])).leaf f23 (by rfl) (by exact hpu) hok (by rfl) ((Nat.le_of_ble_eq_true rfl))]
  generalize hτ3 : aftS _ _ _ _ _ _ = τ3
  obtain ⟨ds3, L3, f31, f32, f33, f34, f35⟩ := aft_of hτ3 hok (by omega)
  clear hτ3
  simp only [List.length_cons, List.length_nil] at f34
  simp only [f31, TMA, IA, PA, RA0, RA1, RA2, RA3, RA4, RA5, RA6, RA7, RA8, RA9, RA10, Nat.reduceAdd, Nat.reduceMul, Nat.reduceEqDiff, Nat.reduceLeDiff, Nat.reduceLT, Int.reduceToNat, Int.reduceLT, Int.reduceLE, Int.reduceEq, Int.reduceNeg, Int.reduceAdd, Int.reduceSub, Int.reduceMul, reduceIte]
  refine out_rows_one (x := B false) (ds := ds3) (ps := [rsV (pushR a [U x, U 0, .s true 2 (zeroN ++ zeroN)]), rsV b, rsV c]) (L := L3) ?_ (by rfl) (by exact f31) f32.leaf f33 (by rfl)
  simp only [IA, PA, RA0, RA1, RA2, RA3, RA4, RA5, RA6, RA7, RA8, RA9, RA10, Nat.reduceAdd, Nat.reduceMul, Nat.reduceEqDiff, Nat.reduceLeDiff, Nat.reduceLT, Int.reduceToNat, Int.reduceLT, Int.reduceLE, Int.reduceEq, Int.reduceNeg, Int.reduceAdd, Int.reduceSub, Int.reduceMul, reduceIte]
theorem do_2_no2 {p : PS} {a b c : RS} (h : BR p a b c) (x : UInt8) (hx : isTwo x = true) {y : T} {r : List T} (hb : baseP p.lp < 1000000000) (hp : popP p.st (baseP p.lp) = some (y, r)) (hq : popP r (baseP p.lp) = none) :
    EE 87 [lent 118 [rsV a, rsV b, rsV c], S [x]] = some (.t [B false, .t [lent 118 [rsV (pushR (popR a (r.reverse.flatMap encN)) [U x, U 0, .s true 2 (zeroN ++ encN y)]), rsV b, rsV c], S [x]]]) := by
  have ho := h.ok
  have hpo := pop_br h hp
  obtain ⟨hs, hle⟩ := popP_some hp
  have h1 := h.popped hs
  have ho1 := h1.ok
  have hpo2 := pop_br_none h1 hb hq
  have hc3 : ([U x, U 0, .s true 2 (zeroN ++ encN y)] : List AV).length = 3 := rfl
  have hcc : closedL [U x, U 0, .s true 2 (zeroN ++ encN y)] = true := by simp only [closed, closedL, zeroN, closedL_append, encN_closed, Bool.and_self]
  have hpu := push_ok _ b c ho1 [U x, U 0, .s true 2 (zeroN ++ encN y)] hc3 rfl hcc
  have hok1 := in3 ho1.ha ho1.hb ho1.hc
  have hok := in3 (pushR_ok ho1.ha ho1.aS hc3 hcc) ho1.hb ho1.hc
  refine EE_rows (os := [a, b, c]) (xs := [S [x]]) T_do rfl (Nat.le_of_ble_eq_true rfl) (in3 ho.ha ho.hb ho.hc) rfl ?_
  intro ds σ k L hR hn hσ hL hk1 hk
  rw [show opt 87 = [] from rfl]
  simp only [bodyOf, Tryz.f87, SA]
  have hkd : EE 12 [S [x]] = some (.v (.int .u8 43)) := by rw [l7Kind_ev, kind_2 hx]; rfl
  simp only [hkd, IA, PA, RA0, RA1, RA2, RA3, RA4, RA5, RA6, RA7, RA8, RA9, RA10, Nat.reduceAdd, Nat.reduceMul, Nat.reduceEqDiff, Nat.reduceLeDiff, Nat.reduceLT, Int.reduceToNat, Int.reduceLT, Int.reduceLE, Int.reduceEq, Int.reduceNeg, Int.reduceAdd, Int.reduceSub, Int.reduceMul, reduceIte]
  rw [call_ob_eq (os' := [popR a (r.reverse.flatMap encN), b, c]) (by rfl) hσ hR.leaf hn (by rfl) (by exact hpo) hok1 (by simp only [closed, closedL, encN_closed, Bool.and_self]) (by simp only [room, closed, closedL, encN_closed, Bool.and_self]; exact Nat.le_of_ble_eq_true rfl)]
  generalize hτ : aftS _ _ _ _ _ _ = τ
  obtain ⟨ds1, L1, f11, f12, f13, f14, f15⟩ := aft_of hτ hok1 (by omega)
  clear hτ
  simp only [List.length_cons, List.length_nil] at f14
  simp only [f11, TMA, IA, PA, RA0, RA1, RA2, RA3, RA4, RA5, RA6, RA7, RA8, RA9, RA10, Nat.reduceAdd, Nat.reduceMul, Nat.reduceEqDiff, Nat.reduceLeDiff, Nat.reduceLT, Int.reduceToNat, Int.reduceLT, Int.reduceLE, Int.reduceEq, Int.reduceNeg, Int.reduceAdd, Int.reduceSub, Int.reduceMul, reduceIte]
  rw [call_ob_eq (os' := [popR a (r.reverse.flatMap encN), b, c]) (by rfl) (by simp only [upd]; repeat rw [if_neg (by omega)]; exact f11) (f12.frame (fun r hr => by have := f14 r hr; simp only [upd]; repeat rw [if_neg (by omega)])).leaf f13 (by rfl) (by exact hpo2) hok1 (by rfl) (by simp only [room, closed, closedL, zeroN, Bool.and_self]; exact Nat.le_of_ble_eq_true rfl)]
  generalize hτ2 : aftS _ _ _ _ _ _ = τ2
  obtain ⟨ds2, L2, f21, f22, f23, f24, f25⟩ := aft_of hτ2 hok1 (by omega)
  clear hτ2
  simp only [List.length_cons, List.length_nil] at f24
  have hbx : τ2 (k + 4 + 8 + 8 + 8 + 8 + 20) = some (.ob 66 (encN y)) := by
    rw [f25 _ (by omega) (fun hm => by have := f14 _ hm; omega) (.inl (by omega)), upd, if_pos rfl]
  have hne : ¬ (k = k + 32) := by omega
  simp only [f21, hbx, hne, zeroN, TMA, IA, PA, RA0, RA1, RA2, RA3, RA4, RA5, RA6, RA7, RA8, RA9, RA10, Nat.reduceAdd, Nat.reduceMul, Nat.reduceEqDiff, Nat.reduceLeDiff, Nat.reduceLT, Int.reduceToNat, Int.reduceLT, Int.reduceLE, Int.reduceEq, Int.reduceNeg, Int.reduceAdd, Int.reduceSub, Int.reduceMul, reduceIte]
  rw [call_ob_eq (os' := [pushR (popR a (r.reverse.flatMap encN)) [U x, U 0, .s true 2 (zeroN ++ encN y)], b, c]) (by rfl) (by simp only [upd]; repeat rw [if_neg (by omega)]; exact f21) (f22.frame (fun r hr => by have := f24 r hr; simp only [upd]; repeat rw [if_neg (by omega)])).leaf f23 (by simp only [List.all_cons, List.all_nil, goes, zeroN, closed, closedL, closedL_append, encN_closed, Bool.and_self]) (by exact hpu) hok (by rfl) ((Nat.le_of_ble_eq_true rfl))]
  generalize hτ3 : aftS _ _ _ _ _ _ = τ3
  obtain ⟨ds3, L3, f31, f32, f33, f34, f35⟩ := aft_of hτ3 hok (by omega)
  clear hτ3
  simp only [List.length_cons, List.length_nil] at f34
  simp only [f31, TMA, IA, PA, RA0, RA1, RA2, RA3, RA4, RA5, RA6, RA7, RA8, RA9, RA10, Nat.reduceAdd, Nat.reduceMul, Nat.reduceEqDiff, Nat.reduceLeDiff, Nat.reduceLT, Int.reduceToNat, Int.reduceLT, Int.reduceLE, Int.reduceEq, Int.reduceNeg, Int.reduceAdd, Int.reduceSub, Int.reduceMul, reduceIte]
  refine out_rows_one (x := B false) (ds := ds3) (ps := [rsV (pushR (popR a (r.reverse.flatMap encN)) [U x, U 0, .s true 2 (zeroN ++ encN y)]), rsV b, rsV c]) (L := L3) ?_ (by rfl) (by exact f31) f32.leaf f33 (by rfl)
  simp only [IA, PA, RA0, RA1, RA2, RA3, RA4, RA5, RA6, RA7, RA8, RA9, RA10, Nat.reduceAdd, Nat.reduceMul, Nat.reduceEqDiff, Nat.reduceLeDiff, Nat.reduceLT, Int.reduceToNat, Int.reduceLT, Int.reduceLE, Int.reduceEq, Int.reduceNeg, Int.reduceAdd, Int.reduceSub, Int.reduceMul, reduceIte]
end
end Go.Proofs.YtegbkihgnofkfaaGreatDoor.Ev
