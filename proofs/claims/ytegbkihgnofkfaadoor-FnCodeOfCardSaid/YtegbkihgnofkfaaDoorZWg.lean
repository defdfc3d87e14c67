/-
Texts Wg to Wg of the work.
-/
import Derived.Test.YtegbkihgnofkfaaDoorZWf
import Derived.Test.YtegbkihgnofkfaaDoorZVi
/-
Terms: the depth of what the term of a code gives: the law.
-/
namespace Go.Proofs.YtegbkihgnofkfaaDoor.Ev
section
set_option linter.unusedVariables false
set_option linter.unusedSimpArgs false
open Go Go.RowKit
set_option linter.unusedVariables false
set_option linter.unusedSimpArgs false
def LC : List Nat := [oLow 4]
theorem plF_LC : plF LC = true := by decide
theorem onC : oMaskOn ∉ LC ∧ oFlOn ∉ LC := by decide
theorem strC : oStrict ∉ LC := by decide
theorem withOptC_lo {pf : FuncId → Nat} {f : Nat} (h : f < 1000000000) : withOpt LC pf f = pf f := withOpt_lo h plF_LC
theorem maskC_lo {pf : FuncId → Nat} {b f : Nat} (h : f < 1000000000) : maskB LC pf b f = pf f := maskB_lo h plF_LC
theorem lookC {pf : FuncId → Nat} {σ : Sto} : lookAt (withOpt LC pf) σ = σ := look_opt strC onC
theorem baseC {pf : FuncId → Nat} (b : Nat) : atBase (withOpt LC pf) b = withOpt LC pf := base_opt onC b
theorem stC {pf : FuncId → Nat} (t' : Nat) (x : AV) : stOk (withOpt LC pf) t' x = true := st_opt onC t' x
theorem regC_off {pf : FuncId → Nat} (id : Nat) (hi : id < 900000000) (h : decide (id = 4) = false) : inReg (withOpt LC pf) id = withOpt LC pf := by
  simp only [decide_eq_false_iff_not] at h
  exact reg_opt (by
    simp only [LC, List.mem_cons, List.not_mem_nil, or_false, oLow, oReg]
    omega) (by
    simp only [LC, List.mem_cons, List.not_mem_nil, or_false, oLow]
    omega) (by
    simp only [LC, List.mem_cons, List.not_mem_nil, or_false, oLow, oFl]
    omega)
theorem regC_4 {pf : FuncId → Nat} : inReg (withOpt LC pf) 4 = maskP LC pf := by
  have h1 : withOpt LC pf (oReg 4) = 0 := by rw [with_hi (by decide), if_neg (by decide)]
  have h2 : withOpt LC pf (oLow 4) = 1 := by rw [with_hi (by decide), if_pos (by decide)]
  unfold inReg
  rw [h1, h2]
  rfl
theorem lookMC {pf : FuncId → Nat} {σ : Sto} (b : Nat) : lookAt (maskB LC pf b) σ = fun i => if i < b then σ i else none := by
  have h1 : maskB LC pf b oStrict = 0 := by
    unfold maskB maskP
    rw [if_neg (by decide), if_neg (by decide), with_hi (by decide), if_neg strC]
  unfold lookAt
  rw [h1, maskB_on, maskB_mask]
  rfl
theorem T_implDepthOfTerm : TT 17 = some (Tryd.f17, bodyOf Tryd.f17) := by kernel_rfl
theorem T_specDepthOfTerm : TT 66 = some (Tryd.f66, bodyOf Tryd.f66) := by kernel_rfl
theorem adopt_encP (σ : Sto) (key : Nat) (x : T) : adopt σ key (encP x) = some (encP x, σ) := by cases x <;> first | rfl | (simp only [adopt, encP]; exact adopt1_closed (by simp only [closed, closedL, encP_closed, Bool.and_self]))
theorem adopt_nilP (σ : Sto) (key : Nat) : adopt σ key nilP = some (nilP, σ) := rfl
theorem given_ev : EE 60 [] = some (.m dep0) := EE_hand rfl
/-- The depth of a text's term. -/
def depT (t : List UInt8) : Int := match rdT t with
  | some x => dpt h0 x
  | none => -1
theorem implDepthOfTerm_ev (t : List UInt8) (hl : t.length < 4611686018427387904) : EE 17 [S t] = some (N (depT t)) := by
  have h := termOf_ev t hl
  refine EE_plain T_implDepthOfTerm (by decide) (Nat.le_of_ble_eq_true rfl) rfl ?_
  rw [show opt 17 = [] from rfl]
  simp only [bodyOf, Tryd.f17, SA]
  cases hr : rdT t with
  | none =>
    rw [hr] at h
    simp only [h, depT, hr, adopt_encP, adopt_nilP, adopt_nb, adopt_zb, zc_len, zc_leaf, TMA, RR, IA, PA, RA0, RA1, RA2, RA3, RA4, RA5, RA6, RA7, RA8, RA9, RA10, Nat.reduceAdd, Nat.reduceMul, Nat.reduceEqDiff, Nat.reduceLeDiff, Nat.reduceLT, Int.reduceToNat, Int.reduceLT, Int.reduceLE, Int.reduceEq, Int.reduceNeg, Int.reduceAdd, Int.reduceSub, Int.reduceMul, reduceIte]
  | some x =>
    rw [hr] at h
    have hd := depth_ev (encP_is x) (rdT_wf hr).1 dep0 h0 maps0 h0_bd
    have hg := given_ev
    simp only [h, hd, hg, pureK_m, depT, hr, adopt_encP, adopt_nilP, adopt_nb, adopt_zb, zc_len, zc_leaf, TMA, RR, IA, PA, RA0, RA1, RA2, RA3, RA4, RA5, RA6, RA7, RA8, RA9, RA10, Nat.reduceAdd, Nat.reduceMul, Nat.reduceEqDiff, Nat.reduceLeDiff, Nat.reduceLT, Int.reduceToNat, Int.reduceLT, Int.reduceLE, Int.reduceEq, Int.reduceNeg, Int.reduceAdd, Int.reduceSub, Int.reduceMul, reduceIte]
set_option maxRecDepth 100000 in
theorem specDepthOfTerm_ev (t : List UInt8) (hl : t.length < 4611686018427387904) : EE 66 [S t] = some (N (depT t)) := by
  have h := l5Read_ev t hl
  refine EE_plain T_specDepthOfTerm (by decide) (Nat.le_of_ble_eq_true rfl) rfl ?_
  rw [show opt 66 = LC from rfl]
  simp only [bodyOf, Tryd.f66, SA]
  cases hr : rdT t with
  | none =>
    rw [hr] at h
    simp only [h, depT, hr, withOptC_lo, maskC_lo, lookC, baseC, stC, regC_off, regC_4, lookMC, adopt_encP, adopt_nilP, adopt_nb, adopt_zb, zc_len, zc_leaf, TMA, RR, IA, PA, RA0, RA1, RA2, RA3, RA4, RA5, RA6, RA7, RA8, RA9, RA10, Nat.reduceAdd, Nat.reduceMul, Nat.reduceEqDiff, Nat.reduceLeDiff, Nat.reduceLT, Int.reduceToNat, Int.reduceLT, Int.reduceLE, Int.reduceEq, Int.reduceNeg, Int.reduceAdd, Int.reduceSub, Int.reduceMul, reduceIte]
  | some x =>
    rw [hr] at h
    have hd := depthS_ev x (rdT_wf hr).1 h0 h0_bd
    simp only [h, depT, hr, withOptC_lo, maskC_lo, lookC, baseC, stC, regC_off, regC_4, lookMC, adopt_encP, adopt_nilP, adopt_nb, adopt_zb, zc_len, zc_leaf, TMA, RR, IA, PA, RA0, RA1, RA2, RA3, RA4, RA5, RA6, RA7, RA8, RA9, RA10, Nat.reduceAdd, Nat.reduceMul, Nat.reduceEqDiff, Nat.reduceLeDiff, Nat.reduceLT, Int.reduceToNat, Int.reduceLT, Int.reduceLE, Int.reduceEq, Int.reduceNeg, Int.reduceAdd, Int.reduceSub, Int.reduceMul, reduceIte]
    rw [call_new_v (by rfl) (by rfl) l5Start_ev (envL_closed h0)]
    simp only [withOptC_lo, maskC_lo, lookC, baseC, stC, regC_off, regC_4, lookMC, adopt_encP, adopt_nilP, adopt_nb, adopt_zb, zc_len, zc_leaf, TMA, RR, IA, PA, RA0, RA1, RA2, RA3, RA4, RA5, RA6, RA7, RA8, RA9, RA10, Nat.reduceAdd, Nat.reduceMul, Nat.reduceEqDiff, Nat.reduceLeDiff, Nat.reduceLT, Int.reduceToNat, Int.reduceLT, Int.reduceLE, Int.reduceEq, Int.reduceNeg, Int.reduceAdd, Int.reduceSub, Int.reduceMul, reduceIte]
    rw [call_ob_v (by rfl) (by rfl) (envL_closed h0) (goesN _) hd (envL_closed h0) rfl (show 1 ≤ 4 by decide)]
    simp only [withOptC_lo, maskC_lo, lookC, baseC, stC, regC_off, regC_4, lookMC, adopt_encP, adopt_nilP, adopt_nb, adopt_zb, zc_len, zc_leaf, TMA, RR, IA, PA, RA0, RA1, RA2, RA3, RA4, RA5, RA6, RA7, RA8, RA9, RA10, Nat.reduceAdd, Nat.reduceMul, Nat.reduceEqDiff, Nat.reduceLeDiff, Nat.reduceLT, Int.reduceToNat, Int.reduceLT, Int.reduceLE, Int.reduceEq, Int.reduceNeg, Int.reduceAdd, Int.reduceSub, Int.reduceMul, reduceIte]
theorem T_implDepthOfCode : TT 16 = some (Tryd.f16, bodyOf Tryd.f16) := by kernel_rfl
theorem T_specDepthOfCode : TT 28 = some (Tryd.f28, bodyOf Tryd.f28) := by kernel_rfl
/-- The depth of the term of a code. -/
def depC (code : List UInt8) : Int := match specB code with
  | some (t, _, _) => dpt h0 t
  | none => -1
theorem implDepthOfCode_ev (code : List UInt8) (hl : code.length < 50000000) : EE 16 [S code] = some (N (depC code)) := by
  have h := implTermOf_ev code hl
  rw [impl_eq] at h
  refine EE_plain T_implDepthOfCode (by decide) (Nat.le_of_ble_eq_true rfl) rfl ?_
  rw [show opt 16 = [] from rfl]
  simp only [bodyOf, Tryd.f16, SA]
  cases hs : specB code with
  | none =>
    rw [hs] at h
    simp only [Option.map_none] at h
    simp only [h, depC, hs, adopt_sb, adopt_encP, adopt_nilP, adopt_nb, adopt_zb, zc_len, zc_leaf, TMA, RR, IA, PA, RA0, RA1, RA2, RA3, RA4, RA5, RA6, RA7, RA8, RA9, RA10, Nat.reduceAdd, Nat.reduceMul, Nat.reduceEqDiff, Nat.reduceLeDiff, Nat.reduceLT, Int.reduceToNat, Int.reduceLT, Int.reduceLE, Int.reduceEq, Int.reduceNeg, Int.reduceAdd, Int.reduceSub, Int.reduceMul, reduceIte]
  | some w =>
    obtain ⟨t, hh, lv⟩ := w
    rw [hs] at h
    simp only [Option.map_some] at h
    have hr := (spec_impl hs).2.2.2.2
    have hd := implDepthOfTerm_ev (textT t) (by have := (rdT_wf hr).2.2; omega)
    rw [show depT (textT t) = dpt h0 t from by unfold depT; rw [hr]] at hd
    simp only [h, hd, depC, hs, adopt_sb, adopt_encP, adopt_nilP, adopt_nb, adopt_zb, zc_len, zc_leaf, TMA, RR, IA, PA, RA0, RA1, RA2, RA3, RA4, RA5, RA6, RA7, RA8, RA9, RA10, Nat.reduceAdd, Nat.reduceMul, Nat.reduceEqDiff, Nat.reduceLeDiff, Nat.reduceLT, Int.reduceToNat, Int.reduceLT, Int.reduceLE, Int.reduceEq, Int.reduceNeg, Int.reduceAdd, Int.reduceSub, Int.reduceMul, reduceIte]
theorem specDepthOfCode_ev (code : List UInt8) (hl : code.length < 50000000) : EE 28 [S code] = some (N (depC code)) := by
  have h := specTermOf_ev code hl
  refine EE_plain T_specDepthOfCode (by decide) (Nat.le_of_ble_eq_true rfl) rfl ?_
  rw [show opt 28 = [] from rfl]
  simp only [bodyOf, Tryd.f28, SA]
  cases hs : specB code with
  | none =>
    rw [hs] at h
    simp only [h, depC, hs, adopt_sb, adopt_encP, adopt_nilP, adopt_nb, adopt_zb, zc_len, zc_leaf, TMA, RR, IA, PA, RA0, RA1, RA2, RA3, RA4, RA5, RA6, RA7, RA8, RA9, RA10, Nat.reduceAdd, Nat.reduceMul, Nat.reduceEqDiff, Nat.reduceLeDiff, Nat.reduceLT, Int.reduceToNat, Int.reduceLT, Int.reduceLE, Int.reduceEq, Int.reduceNeg, Int.reduceAdd, Int.reduceSub, Int.reduceMul, reduceIte]
  | some w =>
    obtain ⟨t, hh, lv⟩ := w
    rw [hs] at h
    have hr := (spec_impl hs).2.2.2.2
    have hd := specDepthOfTerm_ev (textT t) (by have := (rdT_wf hr).2.2; omega)
    rw [show depT (textT t) = dpt h0 t from by unfold depT; rw [hr]] at hd
    simp only [h, hd, depC, hs, adopt_sb, adopt_encP, adopt_nilP, adopt_nb, adopt_zb, zc_len, zc_leaf, TMA, RR, IA, PA, RA0, RA1, RA2, RA3, RA4, RA5, RA6, RA7, RA8, RA9, RA10, Nat.reduceAdd, Nat.reduceMul, Nat.reduceEqDiff, Nat.reduceLeDiff, Nat.reduceLT, Int.reduceToNat, Int.reduceLT, Int.reduceLE, Int.reduceEq, Int.reduceNeg, Int.reduceAdd, Int.reduceSub, Int.reduceMul, reduceIte]
end
end Go.Proofs.YtegbkihgnofkfaaDoor.Ev
