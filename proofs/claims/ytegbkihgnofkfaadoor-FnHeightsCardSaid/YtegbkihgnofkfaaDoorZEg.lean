/-
Texts Eg to Eg of the work.
-/
import Derived.Test.YtegbkihgnofkfaaDoorZEf
/-
Drawn laws: heights and levels of a code: the law.
-/
namespace Go.Proofs.YtegbkihgnofkfaaDoor.Ev
section
set_option linter.unusedVariables false
set_option linter.unusedSimpArgs false
open Go Go.RowKit
set_option linter.unusedVariables false
set_option linter.unusedSimpArgs false
theorem T_levels : TT 64 = some (Tryd.f64, bodyOf Tryd.f64) := by kernel_rfl
theorem T_levelsOfT : TT 24 = some (Tryd.f24, bodyOf Tryd.f24) := by kernel_rfl
theorem T_lawFnHeights : TT 4 = some (Tryd.f4, bodyOf Tryd.f4) := by kernel_rfl
theorem lv_len : ∀ t, lvT t ≤ (textT t).length
  | .dig c => by simp [lvT]
  | .var c => by simp [lvT]
  | .one s x => by have := lv_len x; simp only [lvT, textT, List.length_cons]; omega
  | .two s x y => by have := lv_len x; have := lv_len y; simp only [lvT, textT, List.length_cons, List.length_append, List.length_nil]; omega
  | .loop s w x y => by have := lv_len x; have := lv_len y; simp only [lvT, textT, List.length_cons, List.length_append, List.length_nil]; omega
theorem mx_nat (a b : Nat) : mx2 true (N (a : Int)) (N (b : Int)) = some (N ((max a b : Nat) : Int)) := by
  simp only [mx2, if_true]
  by_cases h : (b : Int) > (a : Int)
  · rw [if_pos h, Nat.max_eq_right (by omega)]
  · rw [if_neg h, Nat.max_eq_left (by omega)]
set_option maxHeartbeats 4000000 in
theorem levels_ev {a : AV} {t : T} (h : IsP a t) : (textT t).length ≤ 1000000 → EE 64 [a] = some (N (lvT t)) := by
  induction h with
  | dig ex c =>
    intro _
    refine EE_few 3 T_levels (by decide) (Nat.le_of_ble_eq_true rfl) rfl ?_
    rw [show opt 64 = [] from rfl]
    simp only [bodyOf, Tryd.f64, SA]
    simp only [lvT, rounds_rd, TMA, RR, IA, PA, RA0, RA1, RA2, RA3, RA4, RA5, RA6, RA7, RA8, RA9, RA10, Nat.reduceAdd, Nat.reduceMul, Nat.reduceEqDiff, Nat.reduceLeDiff, Nat.reduceLT, Int.reduceToNat, Int.reduceLT, Int.reduceLE, Int.reduceEq, Int.reduceNeg, Int.reduceAdd, Int.reduceSub, Int.reduceMul, reduceIte]
    try rfl
  | var ex c =>
    intro _
    refine EE_few 3 T_levels (by decide) (Nat.le_of_ble_eq_true rfl) rfl ?_
    rw [show opt 64 = [] from rfl]
    simp only [bodyOf, Tryd.f64, SA]
    simp only [lvT, rounds_rd, TMA, RR, IA, PA, RA0, RA1, RA2, RA3, RA4, RA5, RA6, RA7, RA8, RA9, RA10, Nat.reduceAdd, Nat.reduceMul, Nat.reduceEqDiff, Nat.reduceLeDiff, Nat.reduceLT, Int.reduceToNat, Int.reduceLT, Int.reduceLE, Int.reduceEq, Int.reduceNeg, Int.reduceAdd, Int.reduceSub, Int.reduceMul, reduceIte]
    try rfl
  | one ex s h ih =>
    rename_i a x
    intro hb
    simp only [textT, List.length_cons] at hb
    have hx := ih (by omega)
    obtain ⟨ps, rfl, hpc⟩ := h.pD
    have m0 := mx_nat 0 (lvT x)
    rw [Nat.zero_max] at m0
    refine EE_few 3 T_levels (by decide) (Nat.le_of_ble_eq_true rfl) (by simp only [closedL, closed, hpc, Bool.and_self]) ?_
    rw [show opt 64 = [] from rfl]
    simp only [bodyOf, Tryd.f64, SA]
    simp only [hx, hpc, m0, lvT, rounds_rd, TMA, RR, IA, PA, RA0, RA1, RA2, RA3, RA4, RA5, RA6, RA7, RA8, RA9, RA10, Nat.reduceAdd, Nat.reduceMul, Nat.reduceEqDiff, Nat.reduceLeDiff, Nat.reduceLT, Int.reduceToNat, Int.reduceLT, Int.reduceLE, Int.reduceEq, Int.reduceNeg, Int.reduceAdd, Int.reduceSub, Int.reduceMul, reduceIte]
    refine congrArg (fun z : Int => some (AV.v (Value.int .i64 z))) ?_
    (repeat' split) <;> omega
  | two ex s h k ih ik =>
    rename_i a b x y
    intro hb
    simp only [textT, List.length_cons, List.length_append, List.length_nil] at hb
    have hx := ih (by omega)
    have hy := ik (by omega)
    have hlp := loop_is (.two ex s h k)
    obtain ⟨ps, rfl, hpc⟩ := h.pD
    obtain ⟨qs, rfl, hqc⟩ := k.pD
    have m0 := mx_nat 0 (lvT x)
    rw [Nat.zero_max] at m0
    have m1 := mx_nat (lvT x) (lvT y)
    refine EE_few 3 T_levels (by decide) (Nat.le_of_ble_eq_true rfl) (by simp only [closedL, closed, hpc, hqc, Bool.and_self]) ?_
    rw [show opt 64 = [] from rfl]
    simp only [bodyOf, Tryd.f64, SA]
    simp only [hx, hy, hpc, hqc, m0, m1, hlp, isLoop, lvT, rounds_rd, TMA, RR, IA, PA, RA0, RA1, RA2, RA3, RA4, RA5, RA6, RA7, RA8, RA9, RA10, Nat.reduceAdd, Nat.reduceMul, Nat.reduceEqDiff, Nat.reduceLeDiff, Nat.reduceLT, Int.reduceToNat, Int.reduceLT, Int.reduceLE, Int.reduceEq, Int.reduceNeg, Int.reduceAdd, Int.reduceSub, Int.reduceMul, reduceIte]
    refine congrArg (fun z : Int => some (AV.v (Value.int .i64 z))) ?_
    (repeat' split) <;> omega
  | loop ex s v h k ih ik =>
    rename_i a b x y
    intro hb
    simp only [textT, List.length_cons, List.length_append, List.length_nil] at hb
    have hx := ih (by omega)
    have hy := ik (by omega)
    have hlp := loop_is (.loop ex s v h k)
    have hll := lv_len y
    obtain ⟨ps, rfl, hpc⟩ := h.pD
    obtain ⟨qs, rfl, hqc⟩ := k.pD
    have m0 := mx_nat 0 (lvT x)
    rw [Nat.zero_max] at m0
    have m1 := mx_nat (lvT x) (lvT y + 1)
    have w1 : IntKind.i64.wrap ((lvT y : Int) + 1) = ((lvT y + 1 : Nat) : Int) := by rw [wrap64 (by omega) (by omega)]; rfl
    refine EE_few 3 T_levels (by decide) (Nat.le_of_ble_eq_true rfl) (by simp only [closedL, closed, hpc, hqc, Bool.and_self]) ?_
    rw [show opt 64 = [] from rfl]
    simp only [bodyOf, Tryd.f64, SA]
    simp only [hx, hy, hpc, hqc, m0, m1, w1, hlp, isLoop, lvT, rounds_rd, TMA, RR, IA, PA, RA0, RA1, RA2, RA3, RA4, RA5, RA6, RA7, RA8, RA9, RA10, Nat.reduceAdd, Nat.reduceMul, Nat.reduceEqDiff, Nat.reduceLeDiff, Nat.reduceLT, Int.reduceToNat, Int.reduceLT, Int.reduceLE, Int.reduceEq, Int.reduceNeg, Int.reduceAdd, Int.reduceSub, Int.reduceMul, reduceIte]
    refine congrArg (fun z : Int => some (AV.v (Value.int .i64 z))) ?_
    (repeat' split) <;> omega
theorem levelsOfT_ev {t : List UInt8} {x : T} (hr : rdT t = some x) (hl : t.length < 4611686018427387904) : EE 24 [S t] = some (N (lvT x)) := by
  have h := termOf_ev t hl
  rw [hr] at h
  simp only at h
  have hs := levels_ev (encP_is x) (by have := rd_lenD hr; omega)
  refine EE_plain T_levelsOfT (by decide) (Nat.le_of_ble_eq_true rfl) rfl ?_
  rw [show opt 24 = [] from rfl]
  simp only [bodyOf, Tryd.f24, SA]
  simp only [h, hs, adopt_encD, TMA, RR, IA, PA, RA0, RA1, RA2, RA3, RA4, RA5, RA6, RA7, RA8, RA9, RA10, Nat.reduceAdd, Nat.reduceMul, Nat.reduceEqDiff, Nat.reduceLeDiff, Nat.reduceLT, Int.reduceToNat, Int.reduceLT, Int.reduceLE, Int.reduceEq, Int.reduceNeg, Int.reduceAdd, Int.reduceSub, Int.reduceMul, reduceIte]
theorem fold_cast : ∀ (l : List Nat) (a : Nat), ((l.foldl max a : Nat) : Int) = (l.map Int.ofNat).foldl max (a : Int)
  | [], a => rfl
  | x :: l, a => by
    rw [List.map_cons, List.foldl_cons, List.foldl_cons, fold_cast l (max a x)]
    congr 1
    show ((max a x : Nat) : Int) = max (a : Int) (x : Int)
    omega
theorem max_loop {lid : Nat} {Ls : List Nat} {σ : Sto} (hn : Ls.length ≤ 1000) (hσ : σ lid = some (.row 3 1 Ls.length (nats Ls))) : ∀ (r : List Nat) (i acc : Nat) (e : Nat → AV) (nx n : Nat) (q : Option (Ex × St)),
    Ls.drop i = r → r.length < n → roundsE (evC II EE (withOpt [] pf) MX (bodyL Tryd.f4 1)) n ⟨e, σ, nx⟩ = q → e 20 = N acc → e 180 = .w lid 0 Ls.length → e 181 = N Ls.length → e 182 = N i →
    ∃ e' nx', q = some (.exit 3, ⟨e', σ, nx'⟩) ∧ e' 20 = N ((r.foldl max acc : Nat) : Int) ∧ ∀ t, t < 20 → e' t = e t
  | [], i, acc, e, nx, n, q, hr, hnn, hq, h20, h180, h181, h182 => by
    obtain ⟨n, rfl⟩ : ∃ k, n = k + 1 := ⟨n - 1, by simp only [List.length_nil] at hnn; omega⟩
    rw [rounds_rd] at hq
    have hge : Ls.length ≤ i := by
      have := congrArg List.length hr
      simp only [List.length_drop, List.length_nil] at this
      omega
    have hc : ¬ ((i : Int) < (Ls.length : Int)) := by omega
    simp only [bodyL, bodyOf, Tryd.f4, SA, loops, List.nil_append, List.append_nil, List.cons_append, List.getD_cons_zero, List.getD_cons_succ] at hq
    simp only [h181, h182, hc, RR, IA, PA, RA0, RA1, RA2, RA3, RA4, RA5, RA6, RA7, RA8, RA9, RA10, Nat.reduceAdd, Nat.reduceMul, Nat.reduceEqDiff, Nat.reduceLeDiff, Nat.reduceLT, Int.reduceToNat, Int.reduceLT, Int.reduceLE, Int.reduceEq, Int.reduceNeg, Int.reduceAdd, Int.reduceSub, Int.reduceMul, reduceIte] at hq
    refine ⟨_, _, hq.symm, h20, fun t ht => ?_⟩
    have : ¬ (t = 183) := by omega
    simp only [this, if_false]
  | x :: r, i, acc, e, nx, n, q, hr, hnn, hq, h20, h180, h181, h182 => by
    obtain ⟨n, rfl⟩ : ∃ k, n = k + 1 := ⟨n - 1, by simp only [List.length_cons] at hnn; omega⟩
    rw [rounds_rd] at hq
    have hlt : i < Ls.length := by
      have := congrArg List.length hr
      simp only [List.length_drop, List.length_cons] at this
      omega
    have hc : ((i : Int) < (Ls.length : Int)) := by omega
    have hz : (0 : Int) ≤ (i : Int) := by omega
    have hw : IntKind.i64.wrap ((i : Int) + 1) = ((i + 1 : Nat) : Int) := by rw [wrap64 (by omega) (by omega)]; rfl
    have hd := nats_head hr
    have hm : (if (acc : Int) < (x : Int) then (x : Int) else (acc : Int)) = ((max acc x : Nat) : Int) := by split <;> omega
    simp only [bodyL, bodyOf, Tryd.f4, SA, loops, List.nil_append, List.append_nil, List.cons_append, List.getD_cons_zero, List.getD_cons_succ] at hq
    simp only [h20, h180, h181, h182, hσ, hc, hz, hw, hd, hm, Int.toNat_natCast, Nat.mul_one, Nat.zero_add, RR, IA, PA, RA0, RA1, RA2, RA3, RA4, RA5, RA6, RA7, RA8, RA9, RA10, Nat.reduceAdd, Nat.reduceMul, Nat.reduceEqDiff, Nat.reduceLeDiff, Nat.reduceLT, Int.reduceToNat, Int.reduceLT, Int.reduceLE, Int.reduceEq, Int.reduceNeg, Int.reduceAdd, Int.reduceSub, Int.reduceMul, reduceIte] at hq
    obtain ⟨e', nx', g1, g2, g3⟩ := max_loop hn hσ r (i + 1) (max acc x) _ _ n q (by rw [← List.drop_drop, hr]; rfl) (by simp only [List.length_cons] at hnn; omega) hq rfl h180 h181 rfl
    refine ⟨e', nx', g1, g2, fun t ht => ?_⟩
    have hN : ∀ k, 20 ≤ k → ¬ (t = k) := fun k hk => by omega
    rw [g3 t ht]
    simp only [hN 182 (by decide), hN 189 (by decide), hN 20 (by decide), hN 188 (by decide), hN 187 (by decide), hN 186 (by decide), hN 22 (by decide), hN 185 (by decide), hN 184 (by decide), hN 183 (by decide), if_false]
theorem adopt_ob3 (σ : Sto) (key : Nat) {E sz n : Nat} {cs : List AV} (b : Bool) (h : closedL cs = true) : adopt σ key (.t [.o E sz n cs, B b]) = some (.t [.w key 0 n, B b], upd σ key (some (.row E sz n cs))) := adopt_t2 _ _ (adopt1_o h) rfl
theorem adopt_sn3 (σ : Sto) (key : Nat) (b : Bool) : adopt σ key (.t [.s true 0 [], B b]) = some (.t [.s true 0 [], B b], σ) := adopt_two rfl rfl
set_option maxHeartbeats 16000000 in
theorem fnHeights_law (l : List UInt8) : EE 4 [bytesV l] = some (B true) := by
  refine EE_plain T_lawFnHeights (by decide) (Nat.le_of_ble_eq_true rfl) (bytes_cl l) ?_
  rw [show opt 4 = [] from rfl]
  simp only [bodyOf, Tryd.f4, SA]
  by_cases hbig : (1048576 : Int) < (l.length : Int)
  · simp only [bytesV_eq, hbig, RR, IA, PA, RA0, RA1, RA2, RA3, RA4, RA5, RA6, RA7, RA8, RA9, RA10, Nat.reduceAdd, Nat.reduceMul, Nat.reduceEqDiff, Nat.reduceLeDiff, Nat.reduceLT, Int.reduceToNat, Int.reduceLT, Int.reduceLE, Int.reduceEq, Int.reduceNeg, Int.reduceAdd, Int.reduceSub, Int.reduceMul, reduceIte]
  obtain ⟨t, ht, hl⟩ := drawHeights_ev l
  rw [bytesV_eq] at ht
  have hcb := cbs_closed l
  have h := implHeightsOf_ev t (by omega)
  have k := specHeightsOf_ev t (by omega)
  have h2 := implLevelsAt_ev t (by omega)
  have k2 := specLevelsAt_ev t (by omega)
  have cv := implCodeValid_ev t (by omega)
  have hi := implInstructionsOf_ev t (by omega)
  have ho := implTermOf_ev t (by omega)
  rw [impl_eq] at ho
  cases hs : specB t with
  | none =>
    rw [hs] at h k h2 k2 cv
    simp only [Option.isSome_none] at h k h2 k2 cv
    have hf : EE 23 [.s true 0 [], .s true 0 []] = some (B true) := faSame_ev true true [] (by decide)
    simp only [bytesV_eq, hbig, hcb, ht, h, k, h2, k2, cv, hf, adopt_sn3, RR, IA, PA, RA0, RA1, RA2, RA3, RA4, RA5, RA6, RA7, RA8, RA9, RA10, Nat.reduceAdd, Nat.reduceMul, Nat.reduceEqDiff, Nat.reduceLeDiff, Nat.reduceLT, Int.reduceToNat, Int.reduceLT, Int.reduceLE, Int.reduceEq, Int.reduceNeg, Int.reduceAdd, Int.reduceSub, Int.reduceMul, reduceIte]
  | some w =>
    obtain ⟨x, hs0, ls0⟩ := w
    rw [hs] at h k h2 k2 cv hi ho
    simp only [Option.isSome_some, Option.map_some, if_true] at h k h2 k2 cv hi ho
    obtain ⟨_, hw, hcut, hrun, hrd⟩ := spec_impl hs
    obtain ⟨n1, n2⟩ := runP_n hrun
    rw [hcut] at hi
    rw [n1] at h k
    rw [n2] at h2 k2
    have hx80 := rdT_wf hrd
    have hN : (listT x).length ≤ 80 := hx80.2.1
    have lv := levelsOfT_ev hrd (by omega)
    have e1 : ints (hs0.map Int.ofNat) = nats hs0 := by simp [ints, nats]
    have e2 : ints (ls0.map Int.ofNat) = nats ls0 := by simp [ints, nats]
    have f1 := faSame_ev false false (hs0.map Int.ofNat) (by rw [List.length_map]; omega)
    rw [e1, List.length_map, n1] at f1
    have f2 := faSame_ev false false (ls0.map Int.ofNat) (by rw [List.length_map]; omega)
    rw [e2, List.length_map, n2] at f2
    have c1 := nats_closed hs0
    have c2 := nats_closed ls0
    have l1 : (nats hs0).length = (listT x).length * 1 := by rw [nats_len, n1, Nat.mul_one]
    have l2 : (nats ls0).length = (listT x).length * 1 := by rw [nats_len, n2, Nat.mul_one]
    simp only [bytesV_eq, hbig, hcb, ht, h, k, h2, k2, cv, hi, ho, c1, c2, adopt_ob3 _ _ _ c1, adopt_ob3 _ _ _ c2, strs_closed, RR, IA, PA, RA0, RA1, RA2, RA3, RA4, RA5, RA6, RA7, RA8, RA9, RA10, Nat.reduceAdd, Nat.reduceMul, Nat.reduceEqDiff, Nat.reduceLeDiff, Nat.reduceLT, Int.reduceToNat, Int.reduceLT, Int.reduceLE, Int.reduceEq, Int.reduceNeg, Int.reduceAdd, Int.reduceSub, Int.reduceMul, reduceIte]
    rw [call0_ww (E := 3) (sz := 1) (E' := 3) (sz' := 1) (cs := nats hs0) (ds := nats hs0) (by rfl) (by rfl) (by rfl) l1 l1 c1 c1 rfl f1]
    simp only [RR, IA, PA, RA0, RA1, RA2, RA3, RA4, RA5, RA6, RA7, RA8, RA9, RA10, Nat.reduceAdd, Nat.reduceMul, Nat.reduceEqDiff, Nat.reduceLeDiff, Nat.reduceLT, Int.reduceToNat, Int.reduceLT, Int.reduceLE, Int.reduceEq, Int.reduceNeg, Int.reduceAdd, Int.reduceSub, Int.reduceMul, reduceIte]
    rw [call0_ww (E := 3) (sz := 1) (E' := 3) (sz' := 1) (cs := nats ls0) (ds := nats ls0) (by rfl) (by rfl) (by rfl) l2 l2 c2 c2 rfl f2]
    simp only [cv, hi, strs_closed, RR, IA, PA, RA0, RA1, RA2, RA3, RA4, RA5, RA6, RA7, RA8, RA9, RA10, Nat.reduceAdd, Nat.reduceMul, Nat.reduceEqDiff, Nat.reduceLeDiff, Nat.reduceLT, Int.reduceToNat, Int.reduceLT, Int.reduceLE, Int.reduceEq, Int.reduceNeg, Int.reduceAdd, Int.reduceSub, Int.reduceMul, reduceIte]
    generalize hq : roundsE _ MX _ = q
    have hin := fun hid lid iid H => hs_loop (hid := hid) (lid := lid) (iid := iid) (L := listT x) (Hs := hs0) (Ls := ls0) (by omega) (listT x) 0 ⟨[], []⟩ ⟨[x], []⟩ hs0 ls0 _ _ MX q hrun rfl rfl rfl (list_ins x hw) H (Nat.le_refl _) (Nat.le_refl _) (Nat.zero_le _) (by
      have : (1000000 : Nat) < MX := by decide
      omega) hq
    obtain ⟨e', nx', rfl, hS, hE⟩ := hin _ _ _ ⟨rfl, rfl, rfl, rfl, rfl, rfl, rfl, rfl, rfl, rfl⟩
    clear hin hq
    have g3 := hE 3 (by decide)
    have g4 := hE 4 (by decide)
    have g6 := hE 6 (by decide)
    have g12 := hE 12 (by decide)
    simp only [Nat.reduceEqDiff, if_true, if_false] at g3 g4 g6 g12
    have g13 := hS.e13
    have g14 := hS.e14
    simp only [List.length_cons, List.length_nil] at g13 g14
    simp only [g3, g6, ho, adopt_sb2, RR, IA, PA, RA0, RA1, RA2, RA3, RA4, RA5, RA6, RA7, RA8, RA9, RA10, Nat.reduceAdd, Nat.reduceMul, Nat.reduceEqDiff, Nat.reduceLeDiff, Nat.reduceLT, Int.reduceToNat, Int.reduceLT, Int.reduceLE, Int.reduceEq, Int.reduceNeg, Int.reduceAdd, Int.reduceSub, Int.reduceMul, reduceIte]
    generalize hq : roundsE _ MX _ = q
    have hm := fun lid H h20 h180 h181 h182 => max_loop (lid := lid) (Ls := ls0) (by omega) H ls0 0 0 _ _ MX q rfl (by
      have : (1000000 : Nat) < MX := by decide
      omega) hq h20 h180 h181 h182
    obtain ⟨e2, nx2, rfl, j20, jE⟩ := hm 60 (by rw [n2]; rfl) rfl (by rw [n2]; rfl) (by rw [n2]; rfl) rfl
    clear hm hq
    have j13 : e2 13 = N 1 := (jE 13 (by decide)).trans g13
    have j14 : e2 14 = N 0 := (jE 14 (by decide)).trans g14
    have j4 : e2 4 = .w 32 0 (listT x).length := (jE 4 (by decide)).trans g4
    have j12 : e2 12 = .w 264 0 (listT x).length := (jE 12 (by decide)).trans g12
    have j18 : e2 18 = S (textT x) := jE 18 (by decide)
    have hfold : ((ls0.foldl max 0 : Nat) : Int) = (lvT x : Int) := by
      rw [fold_cast]
      exact ls_max hw hrun
    rw [hfold] at j20
    have d1 : decide (((listT x).length : Int) = ((listT x).length : Int)) = true := by simp
    have d2 : decide ((lvT x : Int) = (lvT x : Int)) = true := by simp
    simp only [j4, j12, j13, j14, j18, j20, lv, d1, d2, RR, IA, PA, RA0, RA1, RA2, RA3, RA4, RA5, RA6, RA7, RA8, RA9, RA10, Nat.reduceAdd, Nat.reduceMul, Nat.reduceEqDiff, Nat.reduceLeDiff, Nat.reduceLT, Int.reduceToNat, Int.reduceLT, Int.reduceLE, Int.reduceEq, Int.reduceNeg, Int.reduceAdd, Int.reduceSub, Int.reduceMul, reduceIte]
end
end Go.Proofs.YtegbkihgnofkfaaDoor.Ev
