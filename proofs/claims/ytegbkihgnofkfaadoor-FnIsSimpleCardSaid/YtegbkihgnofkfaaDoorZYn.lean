/-
Texts Yn to Yn of the work.
-/
import Derived.Test.YtegbkihgnofkfaaDoorZYm
import Derived.Test.YtegbkihgnofkfaaDoorZYg
/-
Simplifying: the reference's rules: two loops made one.
-/
namespace Go.Proofs.YtegbkihgnofkfaaDoor.Ev
section
set_option linter.unusedVariables false
set_option linter.unusedSimpArgs false
open Go Go.RowKit
set_option linter.unusedVariables false
set_option linter.unusedSimpArgs false
def LU : List Nat := [oBox 49, oReg 3, oLow 6, oHi 49]
theorem plF_LU : plF LU = true := by decide
theorem onU : oMaskOn ∉ LU ∧ oFlOn ∉ LU := by decide
theorem strU : oStrict ∉ LU := by decide
theorem withOptU_lo {pf : FuncId → Nat} {f : Nat} (h : f < 1000000000) : withOpt LU pf f = pf f := withOpt_lo h plF_LU
theorem strictPU_lo {pf : FuncId → Nat} {f : Nat} (h : f < 1000000000) : strictP LU pf f = pf f := strictP_lo h plF_LU
theorem maskU_lo {pf : FuncId → Nat} {b f : Nat} (h : f < 1000000000) : maskB LU pf b f = pf f := maskB_lo h plF_LU
theorem lookU {pf : FuncId → Nat} {σ : Sto} : lookAt (withOpt LU pf) σ = σ := look_opt strU onU
theorem baseU {pf : FuncId → Nat} (b : Nat) : atBase (withOpt LU pf) b = withOpt LU pf := base_opt onU b
theorem stU {pf : FuncId → Nat} (t' : Nat) (x : AV) : stOk (withOpt LU pf) t' x = true := st_opt onU t' x
theorem strictU_on {pf : FuncId → Nat} : strictP LU pf oMaskOn = 0 := by
  unfold strictP
  rw [if_neg (by decide), with_hi (by decide), if_neg onU.1]
theorem strictU_fl {pf : FuncId → Nat} : strictP LU pf oFlOn = 0 := by
  unfold strictP
  rw [if_neg (by decide), with_hi (by decide), if_neg onU.2]
theorem base_strictU {pf : FuncId → Nat} (b : Nat) : atBase (strictP LU pf) b = strictP LU pf := by
  unfold atBase
  rw [strictU_on, strictU_fl]
  rfl
theorem st_strictU {pf : FuncId → Nat} (t' : Nat) (x : AV) : stOk (strictP LU pf) t' x = true := by
  unfold stOk
  rw [strictU_on, strictU_fl]
  rfl
theorem regU_off {pf : FuncId → Nat} (id : Nat) (hi : id < 900000000) (h : decide (id = 3) = false ∧ decide (id = 6) = false) : inReg (withOpt LU pf) id = withOpt LU pf := by
  simp only [decide_eq_false_iff_not] at h
  exact reg_opt (by
    simp only [LU, List.mem_cons, List.not_mem_nil, or_false, oBox, oReg, oLow, oHi]
    omega) (by
    simp only [LU, List.mem_cons, List.not_mem_nil, or_false, oBox, oReg, oLow, oHi]
    omega) (by
    simp only [LU, List.mem_cons, List.not_mem_nil, or_false, oBox, oFl, oReg, oLow, oHi]
    omega)
theorem regU_3 {pf : FuncId → Nat} : inReg (withOpt LU pf) 3 = strictP LU pf := by
  have h1 : withOpt LU pf (oReg 3) = 1 := by rw [with_hi (by decide), if_pos (by decide)]
  unfold inReg
  rw [if_pos h1]
  rfl
theorem regU_6 {pf : FuncId → Nat} : inReg (withOpt LU pf) 6 = maskP LU pf := by
  have h1 : withOpt LU pf (oReg 6) = 0 := by rw [with_hi (by decide), if_neg (by decide)]
  have h2 : withOpt LU pf (oLow 6) = 1 := by rw [with_hi (by decide), if_pos (by decide)]
  unfold inReg
  rw [h1, h2]
  rfl
theorem lookMU {pf : FuncId → Nat} {σ : Sto} (b : Nat) : lookAt (maskB LU pf b) σ = fun i => if i < b then σ i else none := by
  have h1 : maskB LU pf b oStrict = 0 := by
    unfold maskB maskP
    rw [if_neg (by decide), if_neg (by decide), with_hi (by decide), if_neg strU]
  unfold lookAt
  rw [h1, maskB_on, maskB_mask]
  rfl
theorem stMU {pf : FuncId → Nat} (b i o : Nat) : stOk (maskB LU pf b) 49 (.r i o) = decide (b ≤ i) := by
  have h1 : maskB LU pf b (oHi 49) = 1 := by
    unfold maskB maskP
    rw [if_neg (by decide), if_neg (by decide), with_hi (by decide), if_pos (by decide)]
  unfold stOk
  rw [maskB_on, if_pos rfl, maskB_mask]
  show (if maskB LU pf b (oHi 49) = 1 then decide (b ≤ i) else decide (i < b)) = _
  rw [h1, if_pos rfl]
theorem bxU {pf : FuncId → Nat} {σ : Sto} {key : Nat} (ls : List AV) : bxK (withOpt LU pf) σ key 49 ls = if ls.all leafOk = true then some (.p ls, σ) else none := bxK_p (by
  rw [with_hi (by decide), if_pos (by decide)]) ls
theorem T_l10Fuse : TT 145 = some (Tryd.f145, bodyOf Tryd.f145) := by kernel_rfl
theorem opt_l10Fuse : opt 145 = LU := rfl
def fuS (v w : UInt8) (a b u : T) : Option T := if 1 < cn v u ∨ (w ≠ v ∧ 0 < fr w u) then none else if (rp v b u).2 = true then some (.loop 91 w a (rp v b u).1) else none
theorem fuS_eq (v w : UInt8) (a b u : T) : fuS v w a b u = fuM v w a b u := by
  unfold fuS fuM
  have e : (1 < fr v u ∨ lf v u = true ∨ (w ≠ v ∧ 0 < fr w u)) ↔ (1 < cn v u ∨ (w ≠ v ∧ 0 < fr w u)) := by
    rw [cn_gt]
    exact or_assoc.symm
  by_cases h : 1 < cn v u ∨ (w ≠ v ∧ 0 < fr w u)
  · rw [if_pos h, if_pos (e.2 h)]
  · rw [if_neg h, if_neg (fun g => h (e.1 g)), rp_pt v b u]
    cases (rp v b u).2 <;> rfl
def fuseS (s v : UInt8) : T → T → Option T
  | .loop q w a b, u => if s = 91 ∧ q = 91 then fuS v w a b u else none
  | _, _ => none
theorem fuseS_eq (s v : UInt8) (x y : T) : fuseS s v x y = fuseM s v x y := by
  cases x with
  | loop q w a b => show (if _ then _ else _) = (if _ then _ else _); rw [fuS_eq]
  | _ => rfl
set_option maxHeartbeats 4000000 in
theorem fuse_no {cs : List AV} {t : T} (h : IsN cs t) (hw : WF t) (hn : ∀ v w a b u, t ≠ .loop 91 v (.loop 91 w a b) u) : EE 145 [.a cs] = some (.t [.a [.v (.int .u8 0), .v (.int .u8 0), .s true 0 []], .v (.bool false)]) := by
  have hcl := cl1 h
  have hrun : ∀ y, (evC II EE (withOpt LU pf) MX (strip (bodyOf Tryd.f145)) (St.init [.a cs])).bind (resK II Tryd.f145.results.toList) = some y → EE 145 [.a cs] = some y := fun y h => EE_plain T_l10Fuse (by decide) (Nat.le_of_ble_eq_true rfl) hcl (by rw [opt_l10Fuse]; exact h)
  have n4891 : decide (((48 : UInt8).toNat : Int) = 91) = false := by decide
  have n9791 : decide (((97 : UInt8).toNat : Int) = 91) = false := by decide
  have n12391 : decide (((123 : UInt8).toNat : Int) = 91) = false := by decide
  cases h with
  | dig ex c =>
    refine hrun _ ?_
    simp only [bodyOf, Tryd.f145, SA]
    simp only [two_name, n4891, n9791, n12391, withOptU_lo, strictPU_lo, maskU_lo, lookU, baseU, stU, base_strictU, st_strictU, regU_off, regU_3, regU_6, lookMU, stMU, bxU, TMA, RR, IA, PA, RA0, RA1, RA2, RA3, RA4, RA5, RA6, RA7, RA8, RA9, RA10, Nat.reduceAdd, Nat.reduceMul, Nat.reduceEqDiff, Nat.reduceLeDiff, Nat.reduceLT, Int.reduceToNat, Int.reduceLT, Int.reduceLE, Int.reduceEq, Int.reduceNeg, Int.reduceAdd, Int.reduceSub, Int.reduceMul, reduceIte]
  | var ex c =>
    refine hrun _ ?_
    simp only [bodyOf, Tryd.f145, SA]
    simp only [two_name, n4891, n9791, n12391, withOptU_lo, strictPU_lo, maskU_lo, lookU, baseU, stU, base_strictU, st_strictU, regU_off, regU_3, regU_6, lookMU, stMU, bxU, TMA, RR, IA, PA, RA0, RA1, RA2, RA3, RA4, RA5, RA6, RA7, RA8, RA9, RA10, Nat.reduceAdd, Nat.reduceMul, Nat.reduceEqDiff, Nat.reduceLeDiff, Nat.reduceLT, Int.reduceToNat, Int.reduceLT, Int.reduceLE, Int.reduceEq, Int.reduceNeg, Int.reduceAdd, Int.reduceSub, Int.reduceMul, reduceIte]
  | one ex s h =>
    have i91 : ¬ ((s.toNat : Int) = 91) := int_of (n := 91) (by omega) (fun e => by
      have e : s = 91 := e
      have := hw.1
      rw [e] at this
      revert this; decide)
    refine hrun _ ?_
    simp only [bodyOf, Tryd.f145, SA]
    simp only [two_name, i91, withOptU_lo, strictPU_lo, maskU_lo, lookU, baseU, stU, base_strictU, st_strictU, regU_off, regU_3, regU_6, lookMU, stMU, bxU, TMA, RR, IA, PA, RA0, RA1, RA2, RA3, RA4, RA5, RA6, RA7, RA8, RA9, RA10, Nat.reduceAdd, Nat.reduceMul, Nat.reduceEqDiff, Nat.reduceLeDiff, Nat.reduceLT, Int.reduceToNat, Int.reduceLT, Int.reduceLE, Int.reduceEq, Int.reduceNeg, Int.reduceAdd, Int.reduceSub, Int.reduceMul, reduceIte]
  | two ex s h k =>
    have i91 : ¬ ((s.toNat : Int) = 91) := int_of (n := 91) (by omega) (fun e => by
      have e : s = 91 := e
      have := hw.1
      rw [e] at this
      revert this; decide)
    refine hrun _ ?_
    simp only [bodyOf, Tryd.f145, SA]
    simp only [two_name, i91, withOptU_lo, strictPU_lo, maskU_lo, lookU, baseU, stU, base_strictU, st_strictU, regU_off, regU_3, regU_6, lookMU, stMU, bxU, TMA, RR, IA, PA, RA0, RA1, RA2, RA3, RA4, RA5, RA6, RA7, RA8, RA9, RA10, Nat.reduceAdd, Nat.reduceMul, Nat.reduceEqDiff, Nat.reduceLeDiff, Nat.reduceLT, Int.reduceToNat, Int.reduceLT, Int.reduceLE, Int.reduceEq, Int.reduceNeg, Int.reduceAdd, Int.reduceSub, Int.reduceMul, reduceIte]
  | loop ex s v h k =>
    rename_i cx cy x y
    refine hrun _ ?_
    simp only [bodyOf, Tryd.f145, SA]
    rcases hw.1 with rfl | rfl
    · have h91 : ¬ sgN x = 91 := fun e => by
        obtain ⟨w, a, b, rfl⟩ := sgN_91 hw.2.2.1 e
        exact hn _ _ _ _ _ rfl
      have i91 : ¬ (((sgN x).toNat : Int) = 91) := int_of (n := 91) (by omega) h91
      have hlen := h.len2 k
      obtain ⟨e2, n2, l2, rfl⟩ := h.form
      simp only [two_name, v91, i91, hlen, k.len, withOptU_lo, strictPU_lo, maskU_lo, lookU, baseU, stU, base_strictU, st_strictU, regU_off, regU_3, regU_6, lookMU, stMU, bxU, TMA, RR, IA, PA, RA0, RA1, RA2, RA3, RA4, RA5, RA6, RA7, RA8, RA9, RA10, Nat.reduceAdd, Nat.reduceMul, Nat.reduceEqDiff, Nat.reduceLeDiff, Nat.reduceLT, Int.reduceToNat, Int.reduceLT, Int.reduceLE, Int.reduceEq, Int.reduceNeg, Int.reduceAdd, Int.reduceSub, Int.reduceMul, reduceIte]
    · simp only [two_name, n4891, n9791, n12391, withOptU_lo, strictPU_lo, maskU_lo, lookU, baseU, stU, base_strictU, st_strictU, regU_off, regU_3, regU_6, lookMU, stMU, bxU, TMA, RR, IA, PA, RA0, RA1, RA2, RA3, RA4, RA5, RA6, RA7, RA8, RA9, RA10, Nat.reduceAdd, Nat.reduceMul, Nat.reduceEqDiff, Nat.reduceLeDiff, Nat.reduceLT, Int.reduceToNat, Int.reduceLT, Int.reduceLE, Int.reduceEq, Int.reduceNeg, Int.reduceAdd, Int.reduceSub, Int.reduceMul, reduceIte]
end
end Go.Proofs.YtegbkihgnofkfaaDoor.Ev
