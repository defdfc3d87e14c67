/-
Texts Yk to Yl of the work.
-/
import Derived.Test.YtegbkihgnofkfaaDoorZYh
import Derived.Test.YtegbkihgnofkfaaDoorZXh
/-
Simplifying: the reference's rules: what turns round, lengths.
-/
namespace Go.Proofs.YtegbkihgnofkfaaDoor.Ev
section
set_option linter.unusedVariables false
set_option linter.unusedSimpArgs false
open Go Go.RowKit
set_option linter.unusedVariables false
set_option linter.unusedSimpArgs false
def turnM (s : UInt8) : T → Option T
  | .one q z => if q = 82 then (if s = 82 then some z else if s = 83 ∨ s = 77 ∨ s = 78 then some (.one s z) else none) else none
  | _ => none
def lenM (s : UInt8) : T → Option T
  | .loop q w a b => if q = 91 ∧ s = 78 then some (.one 78 a) else none
  | _ => none
theorem T_l10Turn : TT 142 = some (Tryd.f142, bodyOf Tryd.f142) := by kernel_rfl
theorem T_l10Length : TT 144 = some (Tryd.f144, bodyOf Tryd.f144) := by kernel_rfl
theorem cl1 {cs : List AV} {t : T} (h : IsN cs t) : closedL [.a cs] = true := by simp only [closedL, closed, h.closed, Bool.and_self]
theorem int_of {c : UInt8} {n : Nat} (hn : n < 256) (h : ¬ c = UInt8.ofNat n) : ¬ ((c.toNat : Int) = (n : Int)) := fun e => h (UInt8.toNat_inj.1 (by rw [UInt8.toNat_ofNat', Nat.mod_eq_of_lt hn]; omega))
theorem sgN_82 {x : T} (hw : WF x) (h : sgN x = 82) : ∃ z, x = .one 82 z := by
  cases x with
  | dig c => exact absurd (show (48 : UInt8) = 82 from h) (by decide)
  | var c => exact absurd (show (97 : UInt8) = 82 from h) (by decide)
  | one s z => exact ⟨z, by rw [show s = 82 from h]⟩
  | two s a b => exact sg_82 hw h
  | loop s v a b => exact sg_82 hw h
theorem sgN_91 {x : T} (hw : WF x) (h : sgN x = 91) : ∃ w a b, x = .loop 91 w a b := by
  cases x with
  | dig c => exact absurd (show (48 : UInt8) = 91 from h) (by decide)
  | var c => exact absurd (show (97 : UInt8) = 91 from h) (by decide)
  | one s z => exact sg_91 hw h
  | two s a b => exact sg_91 hw h
  | loop s v a b => exact sg_91 hw h
theorem v82 : ((82 : UInt8).toNat : Int) = 82 := rfl
theorem v78 : ((78 : UInt8).toNat : Int) = 78 := rfl
theorem v91 : ((91 : UInt8).toNat : Int) = 91 := rfl
theorem v83 : ((83 : UInt8).toNat : Int) = 83 := rfl
theorem v77 : ((77 : UInt8).toNat : Int) = 77 := rfl
set_option maxHeartbeats 4000000 in
theorem turn_ev {cs : List AV} {t : T} (h : IsN cs t) (hw : WF t) : ∃ r, EE 142 [.a cs] = some r ∧ SpR r (match t with | .one s x => turnM s x | _ => none) := by
  have hcl := cl1 h
  have hrun : ∀ y, (evC II EE (withOpt [] pf) MX (strip (bodyOf Tryd.f142)) (St.init [.a cs])).bind (resK II Tryd.f142.results.toList) = some y → EE 142 [.a cs] = some y := fun y h => EE_plain T_l10Turn (by decide) (Nat.le_of_ble_eq_true rfl) hcl h
  cases h with
  | dig ex c =>
    refine ⟨_, hrun _ ?_, SpR.no⟩
    simp only [bodyOf, Tryd.f142, SA]
    simp only [two_name, TMA, RR, IA, PA, RA0, RA1, RA2, RA3, RA4, RA5, RA6, RA7, RA8, RA9, RA10, Nat.reduceAdd, Nat.reduceMul, Nat.reduceEqDiff, Nat.reduceLeDiff, Nat.reduceLT, Int.reduceToNat, Int.reduceLT, Int.reduceLE, Int.reduceEq, Int.reduceNeg, Int.reduceAdd, Int.reduceSub, Int.reduceMul, reduceIte]
  | var ex c =>
    refine ⟨_, hrun _ ?_, SpR.no⟩
    simp only [bodyOf, Tryd.f142, SA]
    simp only [two_name, TMA, RR, IA, PA, RA0, RA1, RA2, RA3, RA4, RA5, RA6, RA7, RA8, RA9, RA10, Nat.reduceAdd, Nat.reduceMul, Nat.reduceEqDiff, Nat.reduceLeDiff, Nat.reduceLT, Int.reduceToNat, Int.reduceLT, Int.reduceLE, Int.reduceEq, Int.reduceNeg, Int.reduceAdd, Int.reduceSub, Int.reduceMul, reduceIte]
  | two ex s h k =>
    refine ⟨_, hrun _ ?_, SpR.no⟩
    simp only [bodyOf, Tryd.f142, SA]
    simp only [two_name, h.len2 k, h.tk2, h.dr2, TMA, RR, IA, PA, RA0, RA1, RA2, RA3, RA4, RA5, RA6, RA7, RA8, RA9, RA10, Nat.reduceAdd, Nat.reduceMul, Nat.reduceEqDiff, Nat.reduceLeDiff, Nat.reduceLT, Int.reduceToNat, Int.reduceLT, Int.reduceLE, Int.reduceEq, Int.reduceNeg, Int.reduceAdd, Int.reduceSub, Int.reduceMul, reduceIte]
  | loop ex s v h k =>
    refine ⟨_, hrun _ ?_, SpR.no⟩
    simp only [bodyOf, Tryd.f142, SA]
    simp only [two_name, h.len2 k, h.tk2, h.dr2, TMA, RR, IA, PA, RA0, RA1, RA2, RA3, RA4, RA5, RA6, RA7, RA8, RA9, RA10, Nat.reduceAdd, Nat.reduceMul, Nat.reduceEqDiff, Nat.reduceLeDiff, Nat.reduceLT, Int.reduceToNat, Int.reduceLT, Int.reduceLE, Int.reduceEq, Int.reduceNeg, Int.reduceAdd, Int.reduceSub, Int.reduceMul, reduceIte]
  | one ex s h =>
    rename_i cx x
    by_cases h82 : sgN x = 82
    · obtain ⟨z, rfl⟩ := sgN_82 hw.2 h82
      cases h with
      | one e2 _ hz =>
        rename_i cz
        by_cases s82 : s = 82
        · subst s82
          refine ⟨.t [.a cz, B true], hrun _ ?_, _, rfl, hz⟩
          simp only [bodyOf, Tryd.f142, SA]
          simp only [two_name, v82, v83, v77, v78, hz.len, hz.tk, hz.closed, hz.leaf, give_nb hz.closed, TMA, RR, IA, PA, RA0, RA1, RA2, RA3, RA4, RA5, RA6, RA7, RA8, RA9, RA10, Nat.reduceAdd, Nat.reduceMul, Nat.reduceEqDiff, Nat.reduceLeDiff, Nat.reduceLT, Int.reduceToNat, Int.reduceLT, Int.reduceLE, Int.reduceEq, Int.reduceNeg, Int.reduceAdd, Int.reduceSub, Int.reduceMul, reduceIte]
        · have i82 : ¬ ((s.toNat : Int) = 82) := int_of (n := 82) (by omega) s82
          by_cases s3 : s = 83 ∨ s = 77 ∨ s = 78
          · have hR : turnM s (.one 82 z) = some (.one s z) := by simp only [turnM, s82, s3, if_true, if_false]
            show ∃ r, _ ∧ SpR r (turnM s (.one 82 z))
            rw [hR]
            refine ⟨.t [.a [U s, U 0, .s true 1 cz], B true], hrun _ ?_, _, rfl, .one true s hz⟩
            clear s82
            rcases s3 with rfl | rfl | rfl
            all_goals
              simp only [bodyOf, Tryd.f142, SA]
              simp only [two_name, v82, v83, v77, v78, i82, hz.len, hz.tk, hz.closed, hz.leaf, TMA, RR, IA, PA, RA0, RA1, RA2, RA3, RA4, RA5, RA6, RA7, RA8, RA9, RA10, Nat.reduceAdd, Nat.reduceMul, Nat.reduceEqDiff, Nat.reduceLeDiff, Nat.reduceLT, Int.reduceToNat, Int.reduceLT, Int.reduceLE, Int.reduceEq, Int.reduceNeg, Int.reduceAdd, Int.reduceSub, Int.reduceMul, reduceIte]
              rfl
          · have hR : turnM s (.one 82 z) = none := by simp only [turnM, s82, s3, if_true, if_false]
            show ∃ r, _ ∧ SpR r (turnM s (.one 82 z))
            rw [hR]
            have i83 : ¬ ((s.toNat : Int) = 83) := int_of (n := 83) (by omega) (fun h => s3 (.inl h))
            have i77 : ¬ ((s.toNat : Int) = 77) := int_of (n := 77) (by omega) (fun h => s3 (.inr (.inl h)))
            have i78 : ¬ ((s.toNat : Int) = 78) := int_of (n := 78) (by omega) (fun h => s3 (.inr (.inr h)))
            refine ⟨_, hrun _ ?_, SpR.no⟩
            simp only [bodyOf, Tryd.f142, SA]
            simp only [two_name, v82, v83, v77, v78, i82, i83, i77, i78, hz.len, hz.tk, hz.closed, hz.leaf, TMA, RR, IA, PA, RA0, RA1, RA2, RA3, RA4, RA5, RA6, RA7, RA8, RA9, RA10, Nat.reduceAdd, Nat.reduceMul, Nat.reduceEqDiff, Nat.reduceLeDiff, Nat.reduceLT, Int.reduceToNat, Int.reduceLT, Int.reduceLE, Int.reduceEq, Int.reduceNeg, Int.reduceAdd, Int.reduceSub, Int.reduceMul, reduceIte]
    · have hR : turnM s x = none := by
        cases x with
        | one q z => rw [turnM, if_neg (show ¬ q = 82 from h82)]
        | _ => rfl
      show ∃ r, _ ∧ SpR r (turnM s x)
      rw [hR]
      have i82 : ¬ (((sgN x).toNat : Int) = 82) := int_of (n := 82) (by omega) h82
      obtain ⟨e2, n2, l2, rfl⟩ := h.form
      refine ⟨_, hrun _ ?_, SpR.no⟩
      simp only [bodyOf, Tryd.f142, SA]
      simp only [two_name, v82, v83, v77, v78, i82, TMA, RR, IA, PA, RA0, RA1, RA2, RA3, RA4, RA5, RA6, RA7, RA8, RA9, RA10, Nat.reduceAdd, Nat.reduceMul, Nat.reduceEqDiff, Nat.reduceLeDiff, Nat.reduceLT, Int.reduceToNat, Int.reduceLT, Int.reduceLE, Int.reduceEq, Int.reduceNeg, Int.reduceAdd, Int.reduceSub, Int.reduceMul, reduceIte]
set_option maxHeartbeats 4000000 in
theorem len_ev {cs : List AV} {t : T} (h : IsN cs t) (hw : WF t) : ∃ r, EE 144 [.a cs] = some r ∧ SpR r (match t with | .one s x => lenM s x | _ => none) := by
  have hcl := cl1 h
  have hrun : ∀ y, (evC II EE (withOpt [] pf) MX (strip (bodyOf Tryd.f144)) (St.init [.a cs])).bind (resK II Tryd.f144.results.toList) = some y → EE 144 [.a cs] = some y := fun y h => EE_plain T_l10Length (by decide) (Nat.le_of_ble_eq_true rfl) hcl h
  have n4878 : decide (((48 : UInt8).toNat : Int) = 78) = false := by decide
  have n9778 : decide (((97 : UInt8).toNat : Int) = 78) = false := by decide
  cases h with
  | dig ex c =>
    refine ⟨_, hrun _ ?_, SpR.no⟩
    simp only [bodyOf, Tryd.f144, SA]
    simp only [two_name, n4878, n9778, TMA, RR, IA, PA, RA0, RA1, RA2, RA3, RA4, RA5, RA6, RA7, RA8, RA9, RA10, Nat.reduceAdd, Nat.reduceMul, Nat.reduceEqDiff, Nat.reduceLeDiff, Nat.reduceLT, Int.reduceToNat, Int.reduceLT, Int.reduceLE, Int.reduceEq, Int.reduceNeg, Int.reduceAdd, Int.reduceSub, Int.reduceMul, reduceIte]
  | var ex c =>
    refine ⟨_, hrun _ ?_, SpR.no⟩
    simp only [bodyOf, Tryd.f144, SA]
    simp only [two_name, n4878, n9778, TMA, RR, IA, PA, RA0, RA1, RA2, RA3, RA4, RA5, RA6, RA7, RA8, RA9, RA10, Nat.reduceAdd, Nat.reduceMul, Nat.reduceEqDiff, Nat.reduceLeDiff, Nat.reduceLT, Int.reduceToNat, Int.reduceLT, Int.reduceLE, Int.reduceEq, Int.reduceNeg, Int.reduceAdd, Int.reduceSub, Int.reduceMul, reduceIte]
  | two ex s h k =>
    have i78 : ¬ ((s.toNat : Int) = 78) := int_of (n := 78) (by omega) (fun e => by
      have e : s = 78 := e
      have := hw.1
      rw [e] at this
      revert this; decide)
    refine ⟨_, hrun _ ?_, SpR.no⟩
    simp only [bodyOf, Tryd.f144, SA]
    simp only [two_name, i78, TMA, RR, IA, PA, RA0, RA1, RA2, RA3, RA4, RA5, RA6, RA7, RA8, RA9, RA10, Nat.reduceAdd, Nat.reduceMul, Nat.reduceEqDiff, Nat.reduceLeDiff, Nat.reduceLT, Int.reduceToNat, Int.reduceLT, Int.reduceLE, Int.reduceEq, Int.reduceNeg, Int.reduceAdd, Int.reduceSub, Int.reduceMul, reduceIte]
  | loop ex s v h k =>
    have i78 : ¬ ((s.toNat : Int) = 78) := int_of (n := 78) (by omega) (fun e => by
      have e : s = 78 := e
      rcases hw.1 with h | h <;> rw [e] at h <;> revert h <;> decide)
    refine ⟨_, hrun _ ?_, SpR.no⟩
    simp only [bodyOf, Tryd.f144, SA]
    simp only [two_name, i78, TMA, RR, IA, PA, RA0, RA1, RA2, RA3, RA4, RA5, RA6, RA7, RA8, RA9, RA10, Nat.reduceAdd, Nat.reduceMul, Nat.reduceEqDiff, Nat.reduceLeDiff, Nat.reduceLT, Int.reduceToNat, Int.reduceLT, Int.reduceLE, Int.reduceEq, Int.reduceNeg, Int.reduceAdd, Int.reduceSub, Int.reduceMul, reduceIte]
  | one ex s h =>
    rename_i cx x
    by_cases s78 : s = 78
    · subst s78
      by_cases h91 : sgN x = 91
      · obtain ⟨w, A, B, rfl⟩ := sgN_91 hw.2 h91
        have hR : lenM 78 (.loop 91 w A B) = some (.one 78 A) := by simp only [lenM, and_self, if_true]
        show ∃ r, _ ∧ SpR r (lenM 78 (.loop 91 w A B))
        rw [hR]
        cases h with
        | loop e2 _ _ ha hb =>
          rename_i ca cb
          refine ⟨.t [.a [U 78, U 0, .s true 1 ca], Ev.B true], hrun _ ?_, _, rfl, .one true 78 ha⟩
          simp only [bodyOf, Tryd.f144, SA]
          simp only [two_name, v78, v91, ha.len2 hb, ha.tk2, ha.dr2, ha.len, ha.tk, ha.leaf, ha.closed, hb.closed, TMA, RR, IA, PA, RA0, RA1, RA2, RA3, RA4, RA5, RA6, RA7, RA8, RA9, RA10, Nat.reduceAdd, Nat.reduceMul, Nat.reduceEqDiff, Nat.reduceLeDiff, Nat.reduceLT, Int.reduceToNat, Int.reduceLT, Int.reduceLE, Int.reduceEq, Int.reduceNeg, Int.reduceAdd, Int.reduceSub, Int.reduceMul, reduceIte]
          rfl
      · have hR : lenM 78 x = none := by
          cases x with
          | loop q w A B => rw [lenM, if_neg (fun h => h91 (show sgN (.loop q w A B) = 91 from h.1))]
          | _ => rfl
        show ∃ r, _ ∧ SpR r (lenM 78 x)
        rw [hR]
        have i91 : ¬ (((sgN x).toNat : Int) = 91) := int_of (n := 91) (by omega) h91
        obtain ⟨e2, n2, l2, rfl⟩ := h.form
        refine ⟨_, hrun _ ?_, SpR.no⟩
        simp only [bodyOf, Tryd.f144, SA]
        simp only [two_name, v78, i91, TMA, RR, IA, PA, RA0, RA1, RA2, RA3, RA4, RA5, RA6, RA7, RA8, RA9, RA10, Nat.reduceAdd, Nat.reduceMul, Nat.reduceEqDiff, Nat.reduceLeDiff, Nat.reduceLT, Int.reduceToNat, Int.reduceLT, Int.reduceLE, Int.reduceEq, Int.reduceNeg, Int.reduceAdd, Int.reduceSub, Int.reduceMul, reduceIte]
    · have hR : lenM s x = none := by
        cases x with
        | loop q w A B => rw [lenM, if_neg (fun h => s78 h.2)]
        | _ => rfl
      show ∃ r, _ ∧ SpR r (lenM s x)
      rw [hR]
      have i78 : ¬ ((s.toNat : Int) = 78) := int_of (n := 78) (by omega) s78
      refine ⟨_, hrun _ ?_, SpR.no⟩
      simp only [bodyOf, Tryd.f144, SA]
      simp only [two_name, i78, TMA, RR, IA, PA, RA0, RA1, RA2, RA3, RA4, RA5, RA6, RA7, RA8, RA9, RA10, Nat.reduceAdd, Nat.reduceMul, Nat.reduceEqDiff, Nat.reduceLeDiff, Nat.reduceLT, Int.reduceToNat, Int.reduceLT, Int.reduceLE, Int.reduceEq, Int.reduceNeg, Int.reduceAdd, Int.reduceSub, Int.reduceMul, reduceIte]
end
end Go.Proofs.YtegbkihgnofkfaaDoor.Ev

/-
Simplifying: the reference's rules: loops that give what they go through.
-/
namespace Go.Proofs.YtegbkihgnofkfaaDoor.Ev
section
set_option linter.unusedVariables false
set_option linter.unusedSimpArgs false
open Go Go.RowKit
set_option linter.unusedVariables false
set_option linter.unusedSimpArgs false
def LF : List Nat := [oBox 49, oFl 5, oFl 6]
def flP (L : List Nat) (pf : FuncId → Nat) : FuncId → Nat := fun f => if f = oFlOn then 1 else if withOpt L pf f = 2 then 4 else withOpt L pf f
def flB (L : List Nat) (pf : FuncId → Nat) (b : Nat) : FuncId → Nat := fun f => if f = oMask then b else flP L pf f
theorem plF_LF : plF LF = true := by decide
theorem onF : oMaskOn ∉ LF ∧ oFlOn ∉ LF := by decide
theorem strF : oStrict ∉ LF := by decide
theorem withOptF_lo {pf : FuncId → Nat} {f : Nat} (h : f < 1000000000) : withOpt LF pf f = pf f := withOpt_lo h plF_LF
theorem lookF {pf : FuncId → Nat} {σ : Sto} : lookAt (withOpt LF pf) σ = σ := look_opt strF onF
theorem baseF {pf : FuncId → Nat} (b : Nat) : atBase (withOpt LF pf) b = withOpt LF pf := base_opt onF b
theorem stF {pf : FuncId → Nat} (t' : Nat) (x : AV) : stOk (withOpt LF pf) t' x = true := st_opt onF t' x
theorem regF_off {pf : FuncId → Nat} (id : Nat) (hi : id < 900000000) (h : decide (id = 5) = false ∧ decide (id = 6) = false) : inReg (withOpt LF pf) id = withOpt LF pf := by
  simp only [decide_eq_false_iff_not] at h
  exact reg_opt (by
    simp only [LF, List.mem_cons, List.not_mem_nil, or_false, oBox, oFl, oReg]
    omega) (by
    simp only [LF, List.mem_cons, List.not_mem_nil, or_false, oBox, oFl, oLow]
    omega) (by
    simp only [LF, List.mem_cons, List.not_mem_nil, or_false, oBox, oFl]
    omega)
theorem regF_5 {pf : FuncId → Nat} : inReg (withOpt LF pf) 5 = flP LF pf := by
  have h1 : withOpt LF pf (oReg 5) = 0 := by rw [with_hi (by decide), if_neg (by decide)]
  have h2 : withOpt LF pf (oLow 5) = 0 := by rw [with_hi (by decide), if_neg (by decide)]
  have h3 : withOpt LF pf (oFl 5) = 1 := by rw [with_hi (by decide), if_pos (by decide)]
  unfold inReg
  rw [h1, h2, h3]
  rfl
theorem regF_6 {pf : FuncId → Nat} : inReg (withOpt LF pf) 6 = flP LF pf := by
  have h1 : withOpt LF pf (oReg 6) = 0 := by rw [with_hi (by decide), if_neg (by decide)]
  have h2 : withOpt LF pf (oLow 6) = 0 := by rw [with_hi (by decide), if_neg (by decide)]
  have h3 : withOpt LF pf (oFl 6) = 1 := by rw [with_hi (by decide), if_pos (by decide)]
  unfold inReg
  rw [h1, h2, h3]
  rfl
theorem flB_lo {pf : FuncId → Nat} {b f : Nat} (h : f < 1000000000) : flB LF pf b f = if pf f = 2 then 4 else pf f := by
  unfold flB flP
  rw [if_neg (fun e => by rw [e] at h; exact absurd (show (1000000000 : Nat) < 1000000000 from h) (by decide)), if_neg (fun e => by rw [e] at h; exact absurd (show (5000000001 : Nat) < 1000000000 from h) (by decide)), withOpt_lo h plF_LF]
theorem flP_mask {pf : FuncId → Nat} : flP LF pf oMaskOn = 0 := by
  have h : withOpt LF pf oMaskOn = 0 := by rw [with_hi (by decide), if_neg onF.1]
  unfold flP
  rw [if_neg (by decide), h]
  rfl
theorem flP_on {pf : FuncId → Nat} : flP LF pf oFlOn = 1 := if_pos rfl
theorem base_flP {pf : FuncId → Nat} (b : Nat) : atBase (flP LF pf) b = flB LF pf b := by
  unfold atBase
  rw [if_pos (.inr flP_on)]
  rfl
theorem flB_hi {pf : FuncId → Nat} {b n : Nat} (h : n ≠ oMask) : flB LF pf b n = flP LF pf n := if_neg h
theorem look_flP {pf : FuncId → Nat} {σ : Sto} (b : Nat) : lookAt (flB LF pf b) σ = fun i => if 12 ≤ i ∧ i < b then σ i else none := by
  have h1 : flB LF pf b oStrict = 0 := by
    have h : withOpt LF pf oStrict = 0 := by rw [with_hi (by decide), if_neg strF]
    rw [flB_hi (by decide)]
    unfold flP
    rw [if_neg (by decide), h]
    rfl
  have h2 : flB LF pf b oMask = b := if_pos rfl
  unfold lookAt
  rw [h1, flB_hi (show oMaskOn ≠ oMask by decide), flP_mask, flB_hi (show oFlOn ≠ oMask by decide), flP_on, h2]
  rfl
theorem st_flP {pf : FuncId → Nat} (b t' i o : Nat) : stOk (flB LF pf b) t' (.r i o) = decide (i < 12) := by
  unfold stOk
  rw [flB_hi (show oMaskOn ≠ oMask by decide), flP_mask, flB_hi (show oFlOn ≠ oMask by decide), flP_on]
  rfl
theorem bxF {pf : FuncId → Nat} {σ : Sto} {key : Nat} (ls : List AV) : bxK (withOpt LF pf) σ key 49 ls = if ls.all leafOk = true then some (.p ls, σ) else none := bxK_p (by
  rw [with_hi (by decide), if_pos (by decide)]) ls
def loopS (s v : UInt8) (y : T) : Bool := if s = 91 then decide (sgN y = 97) && decide (nmN y = v) else decide (sgN y = 48) && !decide (nmN y = 48)
theorem loopS_eq {s v : UInt8} {y : T} (hs : s = 91 ∨ s = 123) (hv : isLV v = true) (hw : WF y) : loopS s v y = loopM s v y := by
  unfold loopS loopM
  rcases hs with rfl | rfl
  · rw [if_pos rfl, if_pos rfl]
    cases y with
    | dig c =>
      have h : ¬ c = v := fun e => by
        have h1 : isDig c = true := hw
        rw [e] at h1
        simp only [isDig, isLV, Bool.and_eq_true, decide_eq_true_eq] at h1 hv
        omega
      show (decide ((48 : UInt8) = 97) && _) = decide (c = v)
      rw [decide_eq_false h]
      rfl
    | var c => rfl
    | one q z =>
      have h : ¬ q = v := fun e => by
        have h1 := hw.1
        have h2 : q = 83 ∨ q = 77 ∨ q = 73 ∨ q = 78 ∨ q = 82 ∨ q = 67 ∨ q = 80 := by simpa [isOne] using h1
        rw [← e] at hv
        rcases h2 with rfl | rfl | rfl | rfl | rfl | rfl | rfl <;> revert hv <;> decide
      have h2 : ¬ q = 97 := fun e => by
        have h1 := hw.1
        rw [e] at h1
        revert h1; decide
      show (decide (q = 97) && _) = decide (q = v)
      rw [decide_eq_false h, decide_eq_false h2]
      rfl
    | two q a b =>
      have h : ¬ q = v := fun e => by
        have h1 := hw.1
        have h2 : q = 43 ∨ q = 42 ∨ q = 94 ∨ q = 45 ∨ q = 61 ∨ q = 60 ∨ q = 64 := by simpa [isTwo] using h1
        rw [← e] at hv
        rcases h2 with rfl | rfl | rfl | rfl | rfl | rfl | rfl <;> revert hv <;> decide
      have h2 : ¬ q = 97 := fun e => by
        have h1 := hw.1
        rw [e] at h1
        revert h1; decide
      show (decide (q = 97) && _) = decide (q = v)
      rw [decide_eq_false h, decide_eq_false h2]
      rfl
    | loop q w a b =>
      have h : ¬ q = v := fun e => by
        rw [← e] at hv
        rcases hw.1 with h | h <;> rw [h] at hv <;> revert hv <;> decide
      have h2 : ¬ q = 97 := fun e => by
        rcases hw.1 with h | h <;> rw [e] at h <;> revert h <;> decide
      show (decide (q = 97) && _) = decide (q = v)
      rw [decide_eq_false h, decide_eq_false h2]
      rfl
  · rw [if_neg (by decide), if_neg (by decide)]
    cases hd : isDigT y with
    | false =>
      have h2 : ¬ sgN y = 48 := fun e => sgN_48 hw hd (by rw [e]; rfl)
      rw [decide_eq_false h2]
      rfl
    | true =>
      obtain ⟨c, rfl⟩ : ∃ c, y = .dig c := by cases y <;> first | exact ⟨_, rfl⟩ | (simp [isDigT] at hd)
      rfl
theorem T_l10Loop : TT 143 = some (Tryd.f143, bodyOf Tryd.f143) := by kernel_rfl
theorem opt_l10Loop : opt 143 = LF := rfl
theorem eq_int (c d : UInt8) : decide ((c.toNat : Int) = (d.toNat : Int)) = decide (c = d) := eq_nat c d
theorem eq97 (c : UInt8) : decide ((c.toNat : Int) = 97) = decide (c = 97) := eq_nat c 97
theorem eq48 (c : UInt8) : decide ((c.toNat : Int) = 48) = decide (c = 48) := eq_nat c 48
set_option maxHeartbeats 4000000 in
theorem loopS_ev {cs : List AV} {t : T} (h : IsN cs t) (hw : WF t) : ∃ r, EE 143 [.a cs] = some r ∧ SpR r (match t with | .loop s v x y => if loopS s v y = true then some x else none | _ => none) := by
  have hcl := cl1 h
  have hrun : ∀ y, (evC II EE (withOpt LF pf) MX (strip (bodyOf Tryd.f143)) (St.init [.a cs])).bind (resK II Tryd.f143.results.toList) = some y → EE 143 [.a cs] = some y := fun y h => EE_plain T_l10Loop (by decide) (Nat.le_of_ble_eq_true rfl) hcl (by rw [opt_l10Loop]; exact h)
  cases h with
  | dig ex c =>
    refine ⟨_, hrun _ ?_, SpR.no⟩
    simp only [bodyOf, Tryd.f143, SA]
    simp only [two_name, withOptF_lo, lookF, baseF, stF, regF_off, regF_5, regF_6, flB_lo, base_flP, look_flP, st_flP, bxF, TMA, RR, IA, PA, RA0, RA1, RA2, RA3, RA4, RA5, RA6, RA7, RA8, RA9, RA10, Nat.reduceAdd, Nat.reduceMul, Nat.reduceEqDiff, Nat.reduceLeDiff, Nat.reduceLT, Int.reduceToNat, Int.reduceLT, Int.reduceLE, Int.reduceEq, Int.reduceNeg, Int.reduceAdd, Int.reduceSub, Int.reduceMul, reduceIte]
  | var ex c =>
    refine ⟨_, hrun _ ?_, SpR.no⟩
    simp only [bodyOf, Tryd.f143, SA]
    simp only [two_name, withOptF_lo, lookF, baseF, stF, regF_off, regF_5, regF_6, flB_lo, base_flP, look_flP, st_flP, bxF, TMA, RR, IA, PA, RA0, RA1, RA2, RA3, RA4, RA5, RA6, RA7, RA8, RA9, RA10, Nat.reduceAdd, Nat.reduceMul, Nat.reduceEqDiff, Nat.reduceLeDiff, Nat.reduceLT, Int.reduceToNat, Int.reduceLT, Int.reduceLE, Int.reduceEq, Int.reduceNeg, Int.reduceAdd, Int.reduceSub, Int.reduceMul, reduceIte]
  | one ex s h =>
    refine ⟨_, hrun _ ?_, SpR.no⟩
    simp only [bodyOf, Tryd.f143, SA]
    simp only [two_name, h.len, withOptF_lo, lookF, baseF, stF, regF_off, regF_5, regF_6, flB_lo, base_flP, look_flP, st_flP, bxF, TMA, RR, IA, PA, RA0, RA1, RA2, RA3, RA4, RA5, RA6, RA7, RA8, RA9, RA10, Nat.reduceAdd, Nat.reduceMul, Nat.reduceEqDiff, Nat.reduceLeDiff, Nat.reduceLT, Int.reduceToNat, Int.reduceLT, Int.reduceLE, Int.reduceEq, Int.reduceNeg, Int.reduceAdd, Int.reduceSub, Int.reduceMul, reduceIte]
  | two ex s h k =>
    refine ⟨_, hrun _ ?_, SpR.no⟩
    simp only [bodyOf, Tryd.f143, SA]
    simp only [two_name, h.len2 k, withOptF_lo, lookF, baseF, stF, regF_off, regF_5, regF_6, flB_lo, base_flP, look_flP, st_flP, bxF, TMA, RR, IA, PA, RA0, RA1, RA2, RA3, RA4, RA5, RA6, RA7, RA8, RA9, RA10, Nat.reduceAdd, Nat.reduceMul, Nat.reduceEqDiff, Nat.reduceLeDiff, Nat.reduceLT, Int.reduceToNat, Int.reduceLT, Int.reduceLE, Int.reduceEq, Int.reduceNeg, Int.reduceAdd, Int.reduceSub, Int.reduceMul, reduceIte]
  | loop ex s v h k =>
    rename_i cx cy x y
    have hv0 : ¬ ((v.toNat : Int) = 0) := fun e => lv_0 hw.2.1 (UInt8.toNat_inj.1 (by simpa using e))
    have hlen := h.len2 k
    have e123 : decide (((123 : UInt8).toNat : Int) = 91) = false := by decide
    have xl := h.len
    have xc := h.closed
    have xf := h.leaf
    have xt := h.tk
    have x2 := h.tk2 (cy := cy)
    have y2 := h.dr2 (cy := cy)
    have yt := k.tk
    obtain ⟨e2, n2, l2, hf⟩ := k.form
    have yl := k.len
    have yf := k.leaf
    have yc := k.closed
    show ∃ r, _ ∧ SpR r (if loopS s v y = true then some x else none)
    rw [hf] at yl yf yc yt y2 x2 hlen hrun ⊢
    rcases hw.1 with rfl | rfl
    · show ∃ r, _ ∧ SpR r (if loopS 91 v y = true then some x else none)
      have e : loopS 91 v y = (decide (sgN y = 97) && decide (nmN y = v)) := by unfold loopS; rw [if_pos rfl]
      rw [e]
      cases p : decide (sgN y = 97) with
      | false =>
        refine ⟨.t [.a cx, B false], hrun _ ?_, _, rfl, xc, xl, xf⟩
        simp only [bodyOf, Tryd.f143, SA]
        simp only [two_name, v91, hv0, hlen, xl, xc, xf, xt, x2, y2, yt, yl, yf, yc, eq97, eq48, eq_int, p, give_nb xc, withOptF_lo, lookF, baseF, stF, regF_off, regF_5, regF_6, flB_lo, base_flP, look_flP, st_flP, bxF, TMA, RR, IA, PA, RA0, RA1, RA2, RA3, RA4, RA5, RA6, RA7, RA8, RA9, RA10, Nat.reduceAdd, Nat.reduceMul, Nat.reduceEqDiff, Nat.reduceLeDiff, Nat.reduceLT, Int.reduceToNat, Int.reduceLT, Int.reduceLE, Int.reduceEq, Int.reduceNeg, Int.reduceAdd, Int.reduceSub, Int.reduceMul, reduceIte]
      | true =>
        cases q : decide (nmN y = v) with
        | false =>
          refine ⟨.t [.a cx, B false], hrun _ ?_, _, rfl, xc, xl, xf⟩
          simp only [bodyOf, Tryd.f143, SA]
          simp only [two_name, v91, hv0, hlen, xl, xc, xf, xt, x2, y2, yt, yl, yf, yc, eq97, eq48, eq_int, p, q, give_nb xc, withOptF_lo, lookF, baseF, stF, regF_off, regF_5, regF_6, flB_lo, base_flP, look_flP, st_flP, bxF, TMA, RR, IA, PA, RA0, RA1, RA2, RA3, RA4, RA5, RA6, RA7, RA8, RA9, RA10, Nat.reduceAdd, Nat.reduceMul, Nat.reduceEqDiff, Nat.reduceLeDiff, Nat.reduceLT, Int.reduceToNat, Int.reduceLT, Int.reduceLE, Int.reduceEq, Int.reduceNeg, Int.reduceAdd, Int.reduceSub, Int.reduceMul, reduceIte]
        | true =>
          refine ⟨.t [.a cx, B true], hrun _ ?_, _, rfl, h⟩
          simp only [bodyOf, Tryd.f143, SA]
          simp only [two_name, v91, hv0, hlen, xl, xc, xf, xt, x2, y2, yt, yl, yf, yc, eq97, eq48, eq_int, p, q, give_nb xc, withOptF_lo, lookF, baseF, stF, regF_off, regF_5, regF_6, flB_lo, base_flP, look_flP, st_flP, bxF, TMA, RR, IA, PA, RA0, RA1, RA2, RA3, RA4, RA5, RA6, RA7, RA8, RA9, RA10, Nat.reduceAdd, Nat.reduceMul, Nat.reduceEqDiff, Nat.reduceLeDiff, Nat.reduceLT, Int.reduceToNat, Int.reduceLT, Int.reduceLE, Int.reduceEq, Int.reduceNeg, Int.reduceAdd, Int.reduceSub, Int.reduceMul, reduceIte]
    · show ∃ r, _ ∧ SpR r (if loopS 123 v y = true then some x else none)
      have e : loopS 123 v y = (decide (sgN y = 48) && !decide (nmN y = 48)) := by unfold loopS; rw [if_neg (by decide)]
      rw [e]
      have v48b : ((48 : UInt8).toNat : Int) = 48 := rfl
      cases p : decide (sgN y = 48) with
      | false =>
        refine ⟨.t [.a cx, B false], hrun _ ?_, _, rfl, xc, xl, xf⟩
        simp only [bodyOf, Tryd.f143, SA]
        simp only [two_name, e123, v48b, hv0, hlen, xl, xc, xf, xt, x2, y2, yt, yl, yf, yc, eq97, eq48, eq_int, p, give_nb xc, withOptF_lo, lookF, baseF, stF, regF_off, regF_5, regF_6, flB_lo, base_flP, look_flP, st_flP, bxF, TMA, RR, IA, PA, RA0, RA1, RA2, RA3, RA4, RA5, RA6, RA7, RA8, RA9, RA10, Nat.reduceAdd, Nat.reduceMul, Nat.reduceEqDiff, Nat.reduceLeDiff, Nat.reduceLT, Int.reduceToNat, Int.reduceLT, Int.reduceLE, Int.reduceEq, Int.reduceNeg, Int.reduceAdd, Int.reduceSub, Int.reduceMul, reduceIte]
      | true =>
        cases q : decide (nmN y = 48) with
        | true =>
          refine ⟨.t [.a cx, B false], hrun _ ?_, _, rfl, xc, xl, xf⟩
          simp only [bodyOf, Tryd.f143, SA]
          simp only [two_name, e123, v48b, hv0, hlen, xl, xc, xf, xt, x2, y2, yt, yl, yf, yc, eq97, eq48, eq_int, p, q, give_nb xc, withOptF_lo, lookF, baseF, stF, regF_off, regF_5, regF_6, flB_lo, base_flP, look_flP, st_flP, bxF, TMA, RR, IA, PA, RA0, RA1, RA2, RA3, RA4, RA5, RA6, RA7, RA8, RA9, RA10, Nat.reduceAdd, Nat.reduceMul, Nat.reduceEqDiff, Nat.reduceLeDiff, Nat.reduceLT, Int.reduceToNat, Int.reduceLT, Int.reduceLE, Int.reduceEq, Int.reduceNeg, Int.reduceAdd, Int.reduceSub, Int.reduceMul, reduceIte]
        | false =>
          refine ⟨.t [.a cx, B true], hrun _ ?_, _, rfl, h⟩
          simp only [bodyOf, Tryd.f143, SA]
          simp only [two_name, e123, v48b, hv0, hlen, xl, xc, xf, xt, x2, y2, yt, yl, yf, yc, eq97, eq48, eq_int, p, q, give_nb xc, withOptF_lo, lookF, baseF, stF, regF_off, regF_5, regF_6, flB_lo, base_flP, look_flP, st_flP, bxF, TMA, RR, IA, PA, RA0, RA1, RA2, RA3, RA4, RA5, RA6, RA7, RA8, RA9, RA10, Nat.reduceAdd, Nat.reduceMul, Nat.reduceEqDiff, Nat.reduceLeDiff, Nat.reduceLT, Int.reduceToNat, Int.reduceLT, Int.reduceLE, Int.reduceEq, Int.reduceNeg, Int.reduceAdd, Int.reduceSub, Int.reduceMul, reduceIte]
end
end Go.Proofs.YtegbkihgnofkfaaDoor.Ev
