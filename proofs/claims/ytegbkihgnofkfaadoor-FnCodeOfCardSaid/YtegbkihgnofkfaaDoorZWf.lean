/-
Texts Wf to Wf of the work.
-/
import Derived.Test.YtegbkihgnofkfaaDoorZWe
/-
Terms: the depth of what they give: the reference's recursion.
-/
namespace Go.Proofs.YtegbkihgnofkfaaDoor.Ev
section
set_option linter.unusedVariables false
set_option linter.unusedSimpArgs false
open Go Go.RowKit
set_option linter.unusedVariables false
set_option linter.unusedSimpArgs false
def LB : List Nat := [oBox 49, oReg 7, oReg 10]
theorem LB_eq : [oBox 49, oReg 7, oReg 10] = LB := rfl
theorem plF_LB : plF LB = true := by decide
theorem onB : oMaskOn ∉ LB ∧ oFlOn ∉ LB := by decide
theorem strB : oStrict ∉ LB := by decide
theorem withOptB_lo {pf : FuncId → Nat} {f : Nat} (h : f < 1000000000) : withOpt LB pf f = pf f := withOpt_lo h plF_LB
theorem strictPB_lo {pf : FuncId → Nat} {f : Nat} (h : f < 1000000000) : strictP LB pf f = pf f := strictP_lo h plF_LB
theorem lookB {pf : FuncId → Nat} {σ : Sto} : lookAt (withOpt LB pf) σ = σ := look_opt strB onB
theorem baseB {pf : FuncId → Nat} (b : Nat) : atBase (withOpt LB pf) b = withOpt LB pf := base_opt onB b
theorem stB {pf : FuncId → Nat} (t' : Nat) (x : AV) : stOk (withOpt LB pf) t' x = true := st_opt onB t' x
theorem strictB_on {pf : FuncId → Nat} : strictP LB pf oMaskOn = 0 := by
  unfold strictP
  rw [if_neg (by decide), with_hi (by decide), if_neg onB.1]
theorem strictB_fl {pf : FuncId → Nat} : strictP LB pf oFlOn = 0 := by
  unfold strictP
  rw [if_neg (by decide), with_hi (by decide), if_neg onB.2]
theorem baseSB {pf : FuncId → Nat} (b : Nat) : atBase (strictP LB pf) b = strictP LB pf := by
  unfold atBase
  rw [strictB_on, strictB_fl]
  rfl
theorem stSB {pf : FuncId → Nat} (t' : Nat) (x : AV) : stOk (strictP LB pf) t' x = true := by
  unfold stOk
  rw [strictB_on, strictB_fl]
  rfl
theorem regB_off {pf : FuncId → Nat} (id : Nat) (hi : id < 900000000) (h : decide (id = 7) = false ∧ decide (id = 10) = false) : inReg (withOpt LB pf) id = withOpt LB pf := by
  simp only [decide_eq_false_iff_not] at h
  exact reg_opt (by
    simp only [LB, List.mem_cons, List.not_mem_nil, or_false, oBox, oReg]
    omega) (by
    simp only [LB, List.mem_cons, List.not_mem_nil, or_false, oBox, oReg, oLow]
    omega) (by
    simp only [LB, List.mem_cons, List.not_mem_nil, or_false, oBox, oReg, oFl]
    omega)
theorem regB_7 {pf : FuncId → Nat} : inReg (withOpt LB pf) 7 = strictP LB pf := by
  have h1 : withOpt LB pf (oReg 7) = 1 := by rw [with_hi (by decide), if_pos (by decide)]
  unfold inReg
  rw [if_pos h1]
  rfl
theorem regB_10 {pf : FuncId → Nat} : inReg (withOpt LB pf) 10 = strictP LB pf := by
  have h1 : withOpt LB pf (oReg 10) = 1 := by rw [with_hi (by decide), if_pos (by decide)]
  unfold inReg
  rw [if_pos h1]
  rfl
theorem bxB {pf : FuncId → Nat} {σ : Sto} {key : Nat} (ls : List AV) : bxK (withOpt LB pf) σ key 49 ls = if ls.all leafOk = true then some (.p ls, σ) else none := bxK_p (by
  rw [with_hi (by decide), if_pos (by decide)]) ls
theorem T_depthS : TT 93 = some (Tryd.f93, bodyOf Tryd.f93) := by kernel_rfl
theorem i48 : decide (((48 : UInt8).toNat : Int) = 48) = true := by decide
theorem i97 : decide (((97 : UInt8).toNat : Int) = 48) = false := by decide
theorem i91 : decide (((91 : UInt8).toNat : Int) = 123) = false := by decide
theorem i123 : decide (((123 : UInt8).toNat : Int) = 123) = true := by decide
theorem goesN (t : T) : [AV.a (encN t)].all goes = true := by simp only [List.all_cons, List.all_nil, goes, closed, encN_closed, Bool.and_self]
set_option maxHeartbeats 4000000 in
set_option maxRecDepth 100000 in
theorem depthS_ev : ∀ t, WF t → ∀ h, (∀ c, Bd (h c)) → EE 93 [lent 128 (envL h), .a (encN t)] = some (.t [N (dpt h t), .t [lent 128 (envL h), .a (encN t)]]) := by
  intro t
  induction t with
  | dig c =>
    intro hw h hb
    refine EE_lend T_depthS rfl (Nat.le_of_ble_eq_true rfl) (envL_closed h) (goesN _) ?_
    rw [show opt 93 = LB from rfl]
    simp only [bodyOf, Tryd.f93, SA]
    simp only [encN, dpt, i48, i97, i91, i123, lookB, baseB, stB, baseSB, stSB, regB_off, regB_7, regB_10, bxB, withOptB_lo, strictPB_lo, TMA, RR, IA, PA, RA0, RA1, RA2, RA3, RA4, RA5, RA6, RA7, RA8, RA9, RA10, Nat.reduceAdd, Nat.reduceMul, Nat.reduceEqDiff, Nat.reduceLeDiff, Nat.reduceLT, Int.reduceToNat, Int.reduceLT, Int.reduceLE, Int.reduceEq, Int.reduceNeg, Int.reduceAdd, Int.reduceSub, Int.reduceMul, reduceIte]
    exact out_one (x := N 0) (by simp only [IA, PA, RA0, RA1, RA2, RA3, RA4, RA5, RA6, RA7, RA8, RA9, RA10, Nat.reduceAdd, Nat.reduceMul, Nat.reduceEqDiff, Nat.reduceLeDiff, Nat.reduceLT, Int.reduceToNat, Int.reduceLT, Int.reduceLE, Int.reduceEq, Int.reduceNeg, Int.reduceAdd, Int.reduceSub, Int.reduceMul, reduceIte]) rfl (by rfl) (envL_closed h) (goesN (.dig c))
  | var c =>
    intro hw h hb
    have hv0 : (0 : Int) ≤ (c.toNat : Int) := by omega
    have hv1 : (c.toNat : Int) < 256 := by have := c.toNat_lt; omega
    have hv3 : (c.toNat : Int) < ((256 : Nat) : Int) := hv1
    have hg := envL_get h c
    refine EE_lend T_depthS rfl (Nat.le_of_ble_eq_true rfl) (envL_closed h) (goesN _) ?_
    rw [show opt 93 = LB from rfl]
    simp only [bodyOf, Tryd.f93, SA]
    simp only [encN, dpt, hv0, hv1, hv3, hg, Int.toNat_natCast, Nat.mul_one, Nat.zero_add, i48, i97, i91, i123, lookB, baseB, stB, baseSB, stSB, regB_off, regB_7, regB_10, bxB, withOptB_lo, strictPB_lo, TMA, RR, IA, PA, RA0, RA1, RA2, RA3, RA4, RA5, RA6, RA7, RA8, RA9, RA10, Nat.reduceAdd, Nat.reduceMul, Nat.reduceEqDiff, Nat.reduceLeDiff, Nat.reduceLT, Int.reduceToNat, Int.reduceLT, Int.reduceLE, Int.reduceEq, Int.reduceNeg, Int.reduceAdd, Int.reduceSub, Int.reduceMul, reduceIte]
    exact out_one (x := N (h c)) (by simp only [IA, PA, RA0, RA1, RA2, RA3, RA4, RA5, RA6, RA7, RA8, RA9, RA10, Nat.reduceAdd, Nat.reduceMul, Nat.reduceEqDiff, Nat.reduceLeDiff, Nat.reduceLT, Int.reduceToNat, Int.reduceLT, Int.reduceLE, Int.reduceEq, Int.reduceNeg, Int.reduceAdd, Int.reduceSub, Int.reduceMul, reduceIte]) rfl (by rfl) (envL_closed h) (goesN (.var c))
  | one s x ih =>
    intro hw h hb
    have hx := ih hw.2 h hb
    have h1 := l5One_ev s hw.1 (dpt h x) (dpt_bd x h hb)
    refine EE_lend T_depthS rfl (Nat.le_of_ble_eq_true rfl) (envL_closed h) (goesN _) ?_
    rw [show opt 93 = LB from rfl]
    simp only [bodyOf, Tryd.f93, SA]
    simp only [encN, dpt, i48, i97, i91, i123, lookB, baseB, stB, baseSB, stSB, regB_off, regB_7, regB_10, bxB, withOptB_lo, strictPB_lo, TMA, RR, IA, PA, RA0, RA1, RA2, RA3, RA4, RA5, RA6, RA7, RA8, RA9, RA10, Nat.reduceAdd, Nat.reduceMul, Nat.reduceEqDiff, Nat.reduceLeDiff, Nat.reduceLT, Int.reduceToNat, Int.reduceLT, Int.reduceLE, Int.reduceEq, Int.reduceNeg, Int.reduceAdd, Int.reduceSub, Int.reduceMul, reduceIte]
    rw [call_ob_v (by rfl) (by rfl) (envL_closed h) (goesN _) hx (envL_closed h) rfl (show 1 ≤ 4 by decide)]
    simp only [h1, i48, i97, i91, i123, lookB, baseB, stB, baseSB, stSB, regB_off, regB_7, regB_10, bxB, withOptB_lo, strictPB_lo, TMA, RR, IA, PA, RA0, RA1, RA2, RA3, RA4, RA5, RA6, RA7, RA8, RA9, RA10, Nat.reduceAdd, Nat.reduceMul, Nat.reduceEqDiff, Nat.reduceLeDiff, Nat.reduceLT, Int.reduceToNat, Int.reduceLT, Int.reduceLE, Int.reduceEq, Int.reduceNeg, Int.reduceAdd, Int.reduceSub, Int.reduceMul, reduceIte]
    exact out_one (x := N _) (by simp only [IA, PA, RA0, RA1, RA2, RA3, RA4, RA5, RA6, RA7, RA8, RA9, RA10, Nat.reduceAdd, Nat.reduceMul, Nat.reduceEqDiff, Nat.reduceLeDiff, Nat.reduceLT, Int.reduceToNat, Int.reduceLT, Int.reduceLE, Int.reduceEq, Int.reduceNeg, Int.reduceAdd, Int.reduceSub, Int.reduceMul, reduceIte]) rfl (by rfl) (envL_closed h) (goesN (.one s x))
  | two s x y ihx ihy =>
    intro hw h hb
    have hx := ihx hw.2.1 h hb
    have hy := ihy hw.2.2 h hb
    have h1 := l5Two_ev s hw.1 (dpt h x) (dpt h y)
    refine EE_lend T_depthS rfl (Nat.le_of_ble_eq_true rfl) (envL_closed h) (goesN _) ?_
    rw [show opt 93 = LB from rfl]
    simp only [bodyOf, Tryd.f93, SA]
    simp only [encN, dpt, i48, i97, i91, i123, lookB, baseB, stB, baseSB, stSB, regB_off, regB_7, regB_10, bxB, withOptB_lo, strictPB_lo, TMA, RR, IA, PA, RA0, RA1, RA2, RA3, RA4, RA5, RA6, RA7, RA8, RA9, RA10, Nat.reduceAdd, Nat.reduceMul, Nat.reduceEqDiff, Nat.reduceLeDiff, Nat.reduceLT, Int.reduceToNat, Int.reduceLT, Int.reduceLE, Int.reduceEq, Int.reduceNeg, Int.reduceAdd, Int.reduceSub, Int.reduceMul, reduceIte]
    rw [call_ob_v (by rfl) (by rfl) (envL_closed h) (goesN _) hx (envL_closed h) rfl (show 1 ≤ 4 by decide)]
    simp only [i48, i97, i91, i123, lookB, baseB, stB, baseSB, stSB, regB_off, regB_7, regB_10, bxB, withOptB_lo, strictPB_lo, TMA, RR, IA, PA, RA0, RA1, RA2, RA3, RA4, RA5, RA6, RA7, RA8, RA9, RA10, Nat.reduceAdd, Nat.reduceMul, Nat.reduceEqDiff, Nat.reduceLeDiff, Nat.reduceLT, Int.reduceToNat, Int.reduceLT, Int.reduceLE, Int.reduceEq, Int.reduceNeg, Int.reduceAdd, Int.reduceSub, Int.reduceMul, reduceIte]
    rw [call_ob_v (by rfl) (by rfl) (envL_closed h) (goesN _) hy (envL_closed h) rfl (show 1 ≤ 4 by decide)]
    simp only [h1, i48, i97, i91, i123, lookB, baseB, stB, baseSB, stSB, regB_off, regB_7, regB_10, bxB, withOptB_lo, strictPB_lo, TMA, RR, IA, PA, RA0, RA1, RA2, RA3, RA4, RA5, RA6, RA7, RA8, RA9, RA10, Nat.reduceAdd, Nat.reduceMul, Nat.reduceEqDiff, Nat.reduceLeDiff, Nat.reduceLT, Int.reduceToNat, Int.reduceLT, Int.reduceLE, Int.reduceEq, Int.reduceNeg, Int.reduceAdd, Int.reduceSub, Int.reduceMul, reduceIte]
    exact out_one (x := N _) (by simp only [IA, PA, RA0, RA1, RA2, RA3, RA4, RA5, RA6, RA7, RA8, RA9, RA10, Nat.reduceAdd, Nat.reduceMul, Nat.reduceEqDiff, Nat.reduceLeDiff, Nat.reduceLT, Int.reduceToNat, Int.reduceLT, Int.reduceLE, Int.reduceEq, Int.reduceNeg, Int.reduceAdd, Int.reduceSub, Int.reduceMul, reduceIte]) rfl (by rfl) (envL_closed h) (goesN (.two s x y))
  | loop s v x y ihx ihy =>
    intro hw h hb
    have hx := ihx hw.2.2.1 h hb
    obtain ⟨hb1, hb2⟩ := dpt_bd x h hb
    have hg := envL_get h v
    have hv0 : (0 : Int) ≤ (v.toNat : Int) := by omega
    have hv1 : (v.toNat : Int) < 256 := by have := v.toNat_lt; omega
    have hv3 : (v.toNat : Int) < ((256 : Nat) : Int) := hv1
    have hv2 : v.toNat < 256 := v.toNat_lt
    have hvz : ¬ ((v.toNat : Int) = 0) := by
      have := hw.2.1
      simp only [isLV, Bool.and_eq_true, decide_eq_true_eq] at this
      omega
    have hlen : ∀ h, v.toNat + 1 ≤ (envL h).length := fun h => by rw [envL_len]; omega
    refine EE_lend T_depthS rfl (Nat.le_of_ble_eq_true rfl) (envL_closed h) (goesN _) ?_
    rw [show opt 93 = LB from rfl]
    simp only [bodyOf, Tryd.f93, SA]
    by_cases h1 : dpt h x < 1
    · simp only [encN, dpt, h1, hvz, i48, i97, i91, i123, lookB, baseB, stB, baseSB, stSB, regB_off, regB_7, regB_10, bxB, withOptB_lo, strictPB_lo, TMA, RR, IA, PA, RA0, RA1, RA2, RA3, RA4, RA5, RA6, RA7, RA8, RA9, RA10, Nat.reduceAdd, Nat.reduceMul, Nat.reduceEqDiff, Nat.reduceLeDiff, Nat.reduceLT, Int.reduceToNat, Int.reduceLT, Int.reduceLE, Int.reduceEq, Int.reduceNeg, Int.reduceAdd, Int.reduceSub, Int.reduceMul, reduceIte]
      rw [call_ob_v (by rfl) (by rfl) (envL_closed h) (goesN _) hx (envL_closed h) rfl (show 1 ≤ 4 by decide)]
      simp only [h1, hvz, i48, i97, i91, i123, lookB, baseB, stB, baseSB, stSB, regB_off, regB_7, regB_10, bxB, withOptB_lo, strictPB_lo, TMA, RR, IA, PA, RA0, RA1, RA2, RA3, RA4, RA5, RA6, RA7, RA8, RA9, RA10, Nat.reduceAdd, Nat.reduceMul, Nat.reduceEqDiff, Nat.reduceLeDiff, Nat.reduceLT, Int.reduceToNat, Int.reduceLT, Int.reduceLE, Int.reduceEq, Int.reduceNeg, Int.reduceAdd, Int.reduceSub, Int.reduceMul, reduceIte]
      exact out_one (x := N _) (by simp only [IA, PA, RA0, RA1, RA2, RA3, RA4, RA5, RA6, RA7, RA8, RA9, RA10, Nat.reduceAdd, Nat.reduceMul, Nat.reduceEqDiff, Nat.reduceLeDiff, Nat.reduceLT, Int.reduceToNat, Int.reduceLT, Int.reduceLE, Int.reduceEq, Int.reduceNeg, Int.reduceAdd, Int.reduceSub, Int.reduceMul, reduceIte]) rfl (by rfl) (envL_closed h) (goesN (.loop s v x y))
    · have hbs : ∀ c, Bd (hset h v (dpt h x - 1) c) := hset_bd hb v ⟨by omega, by omega⟩
      have hy := ihy hw.2.2.2 _ hbs
      obtain ⟨hy1, hy2⟩ := dpt_bd y _ hbs
      have hw1 : IntKind.i64.wrap (dpt h x - 1) = dpt h x - 1 := by rw [wrap64 (by omega) (by omega)]
      have hs1 := envL_set h v (dpt h x - 1)
      have hs2 := envL_set (hset h v (dpt h x - 1)) v (h v)
      rw [show hset (hset h v (dpt h x - 1)) v (h v) = h from by
        funext c
        unfold hset
        by_cases e : c = v <;> simp [e]] at hs2
      simp only [encN, dpt, h1, if_false, i48, i97, i91, i123, lookB, baseB, stB, baseSB, stSB, regB_off, regB_7, regB_10, bxB, withOptB_lo, strictPB_lo, TMA, RR, IA, PA, RA0, RA1, RA2, RA3, RA4, RA5, RA6, RA7, RA8, RA9, RA10, Nat.reduceAdd, Nat.reduceMul, Nat.reduceEqDiff, Nat.reduceLeDiff, Nat.reduceLT, Int.reduceToNat, Int.reduceLT, Int.reduceLE, Int.reduceEq, Int.reduceNeg, Int.reduceAdd, Int.reduceSub, Int.reduceMul, reduceIte]
      rw [call_ob_v (by rfl) (by rfl) (envL_closed h) (goesN _) hx (envL_closed h) rfl (show 1 ≤ 4 by decide)]
      generalize dpt (hset h v (dpt h x - 1)) y = e at hy hy1 hy2 ⊢
      have hw2 : IntKind.i64.wrap (e + 1) = e + 1 := by rw [wrap64 (by omega) (by omega)]
      simp only [h1, hvz, hv0, hv1, hv3, hg, hw1, hlen, hs1, Int.toNat_natCast, Nat.mul_one, Nat.zero_add, i48, i97, i91, i123, lookB, baseB, stB, baseSB, stSB, regB_off, regB_7, regB_10, bxB, withOptB_lo, strictPB_lo, TMA, RR, IA, PA, RA0, RA1, RA2, RA3, RA4, RA5, RA6, RA7, RA8, RA9, RA10, Nat.reduceAdd, Nat.reduceMul, Nat.reduceEqDiff, Nat.reduceLeDiff, Nat.reduceLT, Int.reduceToNat, Int.reduceLT, Int.reduceLE, Int.reduceEq, Int.reduceNeg, Int.reduceAdd, Int.reduceSub, Int.reduceMul, reduceIte]
      rw [call_ob_v (by rfl) (by rfl) (envL_closed _) (goesN _) hy (envL_closed _) rfl (show 1 ≤ 4 by decide)]
      rcases hw.1 with rfl | rfl
      · by_cases c1 : e < 0
        · have c2 : ¬ (0 ≤ e ∧ e ≤ 2) := by omega
          have c3 : ¬ 3 ≤ e := by omega
          simp only [hv0, hv1, hv3, hlen, hs2, c1, c2, c3, hw2, sLoop, Int.toNat_natCast, Nat.mul_one, Nat.zero_add, i48, i97, i91, i123, lookB, baseB, stB, baseSB, stSB, regB_off, regB_7, regB_10, bxB, withOptB_lo, strictPB_lo, TMA, RR, IA, PA, RA0, RA1, RA2, RA3, RA4, RA5, RA6, RA7, RA8, RA9, RA10, Nat.reduceAdd, Nat.reduceMul, Nat.reduceEqDiff, Nat.reduceLeDiff, Nat.reduceLT, Int.reduceToNat, Int.reduceLT, Int.reduceLE, Int.reduceEq, Int.reduceNeg, Int.reduceAdd, Int.reduceSub, Int.reduceMul, reduceIte]
          exact out_one (x := N _) (by simp only [IA, PA, RA0, RA1, RA2, RA3, RA4, RA5, RA6, RA7, RA8, RA9, RA10, Nat.reduceAdd, Nat.reduceMul, Nat.reduceEqDiff, Nat.reduceLeDiff, Nat.reduceLT, Int.reduceToNat, Int.reduceLT, Int.reduceLE, Int.reduceEq, Int.reduceNeg, Int.reduceAdd, Int.reduceSub, Int.reduceMul, reduceIte]) rfl (by rfl) (envL_closed h) (goesN (.loop 91 v x y))
        · by_cases c3 : 3 ≤ e
          · have c2 : ¬ (0 ≤ e ∧ e ≤ 2) := by omega
            simp only [hv0, hv1, hv3, hlen, hs2, c1, c2, c3, hw2, sLoop, Int.toNat_natCast, Nat.mul_one, Nat.zero_add, i48, i97, i91, i123, lookB, baseB, stB, baseSB, stSB, regB_off, regB_7, regB_10, bxB, withOptB_lo, strictPB_lo, TMA, RR, IA, PA, RA0, RA1, RA2, RA3, RA4, RA5, RA6, RA7, RA8, RA9, RA10, Nat.reduceAdd, Nat.reduceMul, Nat.reduceEqDiff, Nat.reduceLeDiff, Nat.reduceLT, Int.reduceToNat, Int.reduceLT, Int.reduceLE, Int.reduceEq, Int.reduceNeg, Int.reduceAdd, Int.reduceSub, Int.reduceMul, reduceIte]
            exact out_one (x := N _) (by simp only [IA, PA, RA0, RA1, RA2, RA3, RA4, RA5, RA6, RA7, RA8, RA9, RA10, Nat.reduceAdd, Nat.reduceMul, Nat.reduceEqDiff, Nat.reduceLeDiff, Nat.reduceLT, Int.reduceToNat, Int.reduceLT, Int.reduceLE, Int.reduceEq, Int.reduceNeg, Int.reduceAdd, Int.reduceSub, Int.reduceMul, reduceIte]) rfl (by rfl) (envL_closed h) (goesN (.loop 91 v x y))
          · have c2 : 0 ≤ e ∧ e ≤ 2 := by omega
            simp only [hv0, hv1, hv3, hlen, hs2, c1, c2, c3, hw2, sLoop, Int.toNat_natCast, Nat.mul_one, Nat.zero_add, i48, i97, i91, i123, lookB, baseB, stB, baseSB, stSB, regB_off, regB_7, regB_10, bxB, withOptB_lo, strictPB_lo, TMA, RR, IA, PA, RA0, RA1, RA2, RA3, RA4, RA5, RA6, RA7, RA8, RA9, RA10, Nat.reduceAdd, Nat.reduceMul, Nat.reduceEqDiff, Nat.reduceLeDiff, Nat.reduceLT, Int.reduceToNat, Int.reduceLT, Int.reduceLE, Int.reduceEq, Int.reduceNeg, Int.reduceAdd, Int.reduceSub, Int.reduceMul, reduceIte]
            exact out_one (x := N _) (by simp only [IA, PA, RA0, RA1, RA2, RA3, RA4, RA5, RA6, RA7, RA8, RA9, RA10, Nat.reduceAdd, Nat.reduceMul, Nat.reduceEqDiff, Nat.reduceLeDiff, Nat.reduceLT, Int.reduceToNat, Int.reduceLT, Int.reduceLE, Int.reduceEq, Int.reduceNeg, Int.reduceAdd, Int.reduceSub, Int.reduceMul, reduceIte]) rfl (by rfl) (envL_closed h) (goesN (.loop 91 v x y))
      · have n91 : ¬ ((123 : UInt8) = 91) := by decide
        by_cases c1 : e = 0
        · simp only [hv0, hv1, hv3, hlen, hs2, c1, n91, hw2, sLoop, Int.toNat_natCast, Nat.mul_one, Nat.zero_add, i48, i97, i91, i123, lookB, baseB, stB, baseSB, stSB, regB_off, regB_7, regB_10, bxB, withOptB_lo, strictPB_lo, TMA, RR, IA, PA, RA0, RA1, RA2, RA3, RA4, RA5, RA6, RA7, RA8, RA9, RA10, Nat.reduceAdd, Nat.reduceMul, Nat.reduceEqDiff, Nat.reduceLeDiff, Nat.reduceLT, Int.reduceToNat, Int.reduceLT, Int.reduceLE, Int.reduceEq, Int.reduceNeg, Int.reduceAdd, Int.reduceSub, Int.reduceMul, reduceIte]
          exact out_one (x := N _) (by simp only [IA, PA, RA0, RA1, RA2, RA3, RA4, RA5, RA6, RA7, RA8, RA9, RA10, Nat.reduceAdd, Nat.reduceMul, Nat.reduceEqDiff, Nat.reduceLeDiff, Nat.reduceLT, Int.reduceToNat, Int.reduceLT, Int.reduceLE, Int.reduceEq, Int.reduceNeg, Int.reduceAdd, Int.reduceSub, Int.reduceMul, reduceIte]) rfl (by rfl) (envL_closed h) (goesN (.loop 123 v x y))
        · simp only [hv0, hv1, hv3, hlen, hs2, c1, n91, hw2, sLoop, Int.toNat_natCast, Nat.mul_one, Nat.zero_add, i48, i97, i91, i123, lookB, baseB, stB, baseSB, stSB, regB_off, regB_7, regB_10, bxB, withOptB_lo, strictPB_lo, TMA, RR, IA, PA, RA0, RA1, RA2, RA3, RA4, RA5, RA6, RA7, RA8, RA9, RA10, Nat.reduceAdd, Nat.reduceMul, Nat.reduceEqDiff, Nat.reduceLeDiff, Nat.reduceLT, Int.reduceToNat, Int.reduceLT, Int.reduceLE, Int.reduceEq, Int.reduceNeg, Int.reduceAdd, Int.reduceSub, Int.reduceMul, reduceIte]
          exact out_one (x := N _) (by simp only [IA, PA, RA0, RA1, RA2, RA3, RA4, RA5, RA6, RA7, RA8, RA9, RA10, Nat.reduceAdd, Nat.reduceMul, Nat.reduceEqDiff, Nat.reduceLeDiff, Nat.reduceLT, Int.reduceToNat, Int.reduceLT, Int.reduceLE, Int.reduceEq, Int.reduceNeg, Int.reduceAdd, Int.reduceSub, Int.reduceMul, reduceIte]) rfl (by rfl) (envL_closed h) (goesN (.loop 123 v x y))
end
end Go.Proofs.YtegbkihgnofkfaaDoor.Ev
