/-
Texts Zf to Zf of the work.
-/
import Derived.Test.YtegbkihgnofkfaaDoorZZe
/-
Simplifying to the end: what both sides give for a text; the laws of SimplifyTerm and IsSimple.
-/
namespace Go.Proofs.YtegbkihgnofkfaaDoor.Ev
section
set_option linter.unusedVariables false
set_option linter.unusedSimpArgs false
open Go Go.RowKit
set_option linter.unusedVariables false
set_option linter.unusedSimpArgs false
theorem T_implSimplifyTerm : TT 34 = some (Tryd.f34, bodyOf Tryd.f34) := by kernel_rfl
theorem T_specSimplifyTerm : TT 71 = some (Tryd.f71, bodyOf Tryd.f71) := by kernel_rfl
theorem T_l10Done : TT 70 = some (Tryd.f70, bodyOf Tryd.f70) := by kernel_rfl
theorem T_implIsSimple : TT 36 = some (Tryd.f36, bodyOf Tryd.f36) := by kernel_rfl
theorem T_specIsSimple : TT 38 = some (Tryd.f38, bodyOf Tryd.f38) := by kernel_rfl
def c0 : List Int := [0, 0, 0, 0, 0, 0, 0]
/-- What is left of a term at the end, and how often each rule was used. -/
def doneX (x : T) : T × List Int := simpF 80 (x, c0)
def simpX (t : List UInt8) : List UInt8 × Bool := match rdT t with
  | some x => (textT (doneX x).1, true)
  | none => ([], false)
theorem done_fit {t : List UInt8} {x : T} (hr : rdT t = some x) : WF (doneX x).1 ∧ (textT (doneX x).1).length ≤ 80 ∧ (doneX x).2.length = 7 := by
  have hl := rd_len hr
  have h := simpF_fit 80 x c0 (rdT_wf hr).1 hl
  exact ⟨h.wf, Nat.le_trans h.le hl, h.ln⟩
theorem doneI_ev {t : List UInt8} {x : T} (hr : rdT t = some x) : ∃ ps pb, encP x = .p ps ∧ closedL ps = true ∧ closedL pb = true ∧ EE 69 [.p ps, lentR 7 3 1 (ints c0)] = some (.t [.p pb, .t [.p ps, lentR 7 3 1 (ints (doneX x).2)]]) ∧ EE 57 [.p pb] = some (S (textT (doneX x).1)) := by
  have hl := rd_len hr
  obtain ⟨d1, d2, d3⟩ := done_fit hr
  obtain ⟨b, h1, h2⟩ := (simpI_all 80 (by decide)).2 (encP x) x c0 (encP_is x) (rdT_wf hr).1 hl rfl
  obtain ⟨ps, hps, hpc⟩ := (encP_is x).p
  obtain ⟨pb, rfl, hbc⟩ := h2.p
  rw [hps] at h1
  exact ⟨ps, pb, hps, hpc, hbc, h1, text_ev h2 d1 (Nat.le_trans d2 (by decide))⟩
set_option maxHeartbeats 4000000 in
theorem implSimp_ev (t : List UInt8) (hl : t.length < 4611686018427387904) : EE 34 [S t] = some (.t [S (simpX t).1, B (simpX t).2]) := by
  have h := termOf_ev t hl
  refine EE_plain T_implSimplifyTerm (by decide) (Nat.le_of_ble_eq_true rfl) rfl ?_
  rw [show opt 34 = [] from rfl]
  simp only [bodyOf, Tryd.f34, SA]
  cases hr : rdT t with
  | none =>
    rw [hr] at h
    simp only [h, simpX, hr, adopt_nilPX, give_sb, TMA, RR, IA, PA, RA0, RA1, RA2, RA3, RA4, RA5, RA6, RA7, RA8, RA9, RA10, Nat.reduceAdd, Nat.reduceMul, Nat.reduceEqDiff, Nat.reduceLeDiff, Nat.reduceLT, Int.reduceToNat, Int.reduceLT, Int.reduceLE, Int.reduceEq, Int.reduceNeg, Int.reduceAdd, Int.reduceSub, Int.reduceMul, reduceIte]
  | some x =>
    rw [hr] at h
    obtain ⟨ps, pb, e1, e2, e3, e4, e5⟩ := doneI_ev hr
    simp only at h
    rw [e1] at h
    simp only [h, e2, e3, simpX, hr, give_sb, TMA, RR, IA, PA, RA0, RA1, RA2, RA3, RA4, RA5, RA6, RA7, RA8, RA9, RA10, Nat.reduceAdd, Nat.reduceMul, Nat.reduceEqDiff, Nat.reduceLeDiff, Nat.reduceLT, Int.reduceToNat, Int.reduceLT, Int.reduceLE, Int.reduceEq, Int.reduceNeg, Int.reduceAdd, Int.reduceSub, Int.reduceMul, reduceIte]
    rw [call2_L ((withOpt_nil_lo (by decide)).trans rfl), callL_pr (cs := ints c0) (by rfl) (ints_closed _) e2 e4 rfl (fun σ key => by rw [adopt_ptr, if_pos e3])]
    simp only [e5, e2, e3, give_sb, TMA, RR, IA, PA, RA0, RA1, RA2, RA3, RA4, RA5, RA6, RA7, RA8, RA9, RA10, Nat.reduceAdd, Nat.reduceMul, Nat.reduceEqDiff, Nat.reduceLeDiff, Nat.reduceLT, Int.reduceToNat, Int.reduceLT, Int.reduceLE, Int.reduceEq, Int.reduceNeg, Int.reduceAdd, Int.reduceSub, Int.reduceMul, reduceIte]
/-! ### options of the reference's l10Done -/
def LD : List Nat := [oBox 107, oFl 5, oFlU]
theorem opt_l10Done : opt 70 = LD := rfl
theorem plF_LD : plF LD = true := by decide
theorem onD : oMaskOn ∉ LD ∧ oFlOn ∉ LD := by decide
theorem strD : oStrict ∉ LD := by decide
theorem withOptD_lo {pf : FuncId → Nat} {f : Nat} (h : f < 1000000000) : withOpt LD pf f = pf f := withOpt_lo h plF_LD
theorem lookD {pf : FuncId → Nat} {σ : Sto} : lookAt (withOpt LD pf) σ = σ := look_opt strD onD
theorem baseD {pf : FuncId → Nat} (b : Nat) : atBase (withOpt LD pf) b = withOpt LD pf := base_opt onD b
theorem stD {pf : FuncId → Nat} (t' : Nat) (x : AV) : stOk (withOpt LD pf) t' x = true := st_opt onD t' x
theorem regD_off {pf : FuncId → Nat} (id : Nat) (hi : id < 900000000) (h : decide (id = 5) = false) : inReg (withOpt LD pf) id = withOpt LD pf := by
  simp only [decide_eq_false_iff_not] at h
  exact reg_opt (by
    simp only [LD, List.mem_cons, List.not_mem_nil, or_false, oFlU, oFl, oReg, oBox]
    omega) (by
    simp only [LD, List.mem_cons, List.not_mem_nil, or_false, oFlU, oFl, oLow, oBox]
    omega) (by
    simp only [LD, List.mem_cons, List.not_mem_nil, or_false, oFlU, oFl, oBox]
    omega)
theorem regD_5 {pf : FuncId → Nat} : inReg (withOpt LD pf) 5 = flQ LD pf := by
  have h1 : withOpt LD pf (oReg 5) = 0 := by rw [with_hi (by decide), if_neg (by decide)]
  have h2 : withOpt LD pf (oLow 5) = 0 := by rw [with_hi (by decide), if_neg (by decide)]
  have h3 : withOpt LD pf (oFl 5) = 1 := by rw [with_hi (by decide), if_pos (by decide)]
  unfold inReg
  rw [h1, h2, h3]
  rfl
theorem flD_lo {pf : FuncId → Nat} {b f : Nat} (h : f < 1000000000) : flR LD pf b f = if pf f = 2 then 4 else pf f := by
  unfold flR flQ
  rw [if_neg (fun e => by rw [e] at h; exact absurd (show (1000000000 : Nat) < 1000000000 from h) (by decide)), if_neg (fun e => by rw [e] at h; exact absurd (show (5000000001 : Nat) < 1000000000 from h) (by decide)), withOpt_lo h plF_LD]
theorem flD_mask {pf : FuncId → Nat} : flQ LD pf oMaskOn = 0 := by
  have h : withOpt LD pf oMaskOn = 0 := by rw [with_hi (by decide), if_neg onD.1]
  unfold flQ
  rw [if_neg (by decide), h]
  rfl
theorem flD_on {pf : FuncId → Nat} : flQ LD pf oFlOn = 1 := if_pos rfl
theorem flD_U {pf : FuncId → Nat} : flQ LD pf oFlU = 1 := by
  have h : withOpt LD pf oFlU = 1 := by rw [with_hi (by decide), if_pos (by decide)]
  unfold flQ
  rw [if_neg (by decide), h]
  rfl
theorem base_flD {pf : FuncId → Nat} (b : Nat) : atBase (flQ LD pf) b = flR LD pf (min b 50) := by
  unfold atBase
  rw [if_pos (.inr flD_on), flD_mask, flD_U]
  rfl
theorem look_flD {pf : FuncId → Nat} {σ : Sto} (b : Nat) : lookAt (flR LD pf b) σ = fun i => if 12 ≤ i ∧ i < b then σ i else none := by
  have hi : ∀ {n : Nat}, n ≠ oMask → flR LD pf b n = flQ LD pf n := fun h => if_neg h
  have h1 : flR LD pf b oStrict = 0 := by
    have h : withOpt LD pf oStrict = 0 := by rw [with_hi (by decide), if_neg strD]
    rw [hi (by decide)]
    unfold flQ
    rw [if_neg (by decide), h]
    rfl
  have h2 : flR LD pf b oMask = b := if_pos rfl
  unfold lookAt
  rw [h1, hi (show oMaskOn ≠ oMask by decide), flD_mask, hi (show oFlOn ≠ oMask by decide), flD_on, h2]
  rfl
theorem maskD {pf : FuncId → Nat} (b : Nat) : flR LD pf b 1000000000 = b := if_pos rfl
theorem bxD {pf : FuncId → Nat} {σ : Sto} {key : Nat} (ls : List AV) : bxK (withOpt LD pf) σ key 107 ls = if ls.all leafOk = true then some (.p ls, σ) else none := bxK_p (by rw [with_hi (by decide), if_pos (by decide)]) ls
theorem doneS_ev {t : List UInt8} {x : T} (hr : rdT t = some x) : ∃ pb y, IsN pb y ∧ EE 94 [lentP 7 3 1 (ints c0), .a (encN x)] = some (.t [.a pb, .t [lentP 7 3 1 (ints (doneX x).2), .a (encN x)]]) ∧ EE 65 [.a pb] = some (S (textT (doneX x).1)) := by
  have hl := rd_len hr
  obtain ⟨d1, d2, d3⟩ := done_fit hr
  obtain ⟨b, h1, h2⟩ := (simpS_all 80 (Nat.le_refl _)).2 (encN x) x c0 (encN_is x) (rdT_wf hr).1 hl rfl
  exact ⟨b, _, h2, h1, l5TextN_ev h2 d1 (by omega)⟩
def doneV (t : List UInt8) : AV := match rdT t with
  | some x => .t [S (textT (doneX x).1), .o 3 1 7 (ints (doneX x).2), B true]
  | none => .t [S [], .s true 0 [], B false]
theorem give_swb {σ : Sto} {id n E sz : Nat} {cs : List AV} (l : List UInt8) (b : Bool) (h : σ id = some (.row E sz n cs)) (hc : closedL cs = true) : giveAll σ [S l, .w id 0 n, B b] = some (.t [S l, .o E sz n cs, B b]) := by
  simp [giveAll, giveL, give1_w h (Nat.le_refl _) hc, give1_closed (show closed (S l) = true from rfl), give1_closed (show closed (B b) = true from rfl), tk]
theorem give_ssb {σ : Sto} (l : List UInt8) (b : Bool) : giveAll σ [S l, .s true 0 [], B b] = some (.t [S l, .s true 0 [], B b]) := giveAll_two rfl
set_option maxHeartbeats 4000000 in
theorem l10Done_ev (t : List UInt8) (hl : t.length < 4611686018427387904) : EE 70 [S t] = some (doneV t) := by
  have h := l5Read_ev t hl
  refine EE_plain T_l10Done (by decide) (Nat.le_of_ble_eq_true rfl) rfl ?_
  rw [opt_l10Done]
  simp only [bodyOf, Tryd.f70, SA]
  unfold doneV
  cases hr : rdT t with
  | none =>
    rw [hr] at h
    simp only [h, hr, adopt_zbX, zc_lenX, zc_leafX, give_ssb, lookD, baseD, stD, regD_off, withOptD_lo, bxD, TMA, RR, IA, PA, RA0, RA1, RA2, RA3, RA4, RA5, RA6, RA7, RA8, RA9, RA10, Nat.reduceAdd, Nat.reduceMul, Nat.reduceEqDiff, Nat.reduceLeDiff, Nat.reduceLT, Int.reduceToNat, Int.reduceLT, Int.reduceLE, Int.reduceEq, Int.reduceNeg, Int.reduceAdd, Int.reduceSub, Int.reduceMul, reduceIte]
  | some x =>
    rw [hr] at h
    obtain ⟨pb, y, e1, e2, e3⟩ := doneS_ev hr
    have mn : min 68 50 = 50 := rfl
    have uc := e1.closed
    have ul := e1.len
    simp only [h, adopt_nbX, mn, lookD, baseD, stD, regD_off, regD_5, withOptD_lo, flD_lo, base_flD, look_flD, bxD, TMA, RR, IA, PA, RA0, RA1, RA2, RA3, RA4, RA5, RA6, RA7, RA8, RA9, RA10, Nat.reduceAdd, Nat.reduceMul, Nat.reduceEqDiff, Nat.reduceLeDiff, Nat.reduceLT, Int.reduceToNat, Int.reduceLT, Int.reduceLE, Int.reduceEq, Int.reduceNeg, Int.reduceAdd, Int.reduceSub, Int.reduceMul, reduceIte]
    rw [call4_L ((flD_lo (by decide)).trans (if_pos rfl)) (callL_pw (cs := ints c0) (by rfl) (ints_closed _) (encN_closed x) e2 rfl (fun σ key => by rw [adopt_agg, if_pos e1.closed])) (fun i h1 h2 => upd_ne _ _ _ _ (by
      rw [maskD] at h2
      omega))]
    simp only [h, e3, uc, ul, adopt_nbX, mn, lookD, baseD, stD, regD_off, regD_5, withOptD_lo, flD_lo, base_flD, look_flD, bxD, TMA, RR, IA, PA, RA0, RA1, RA2, RA3, RA4, RA5, RA6, RA7, RA8, RA9, RA10, Nat.reduceAdd, Nat.reduceMul, Nat.reduceEqDiff, Nat.reduceLeDiff, Nat.reduceLT, Int.reduceToNat, Int.reduceLT, Int.reduceLE, Int.reduceEq, Int.reduceNeg, Int.reduceAdd, Int.reduceSub, Int.reduceMul, reduceIte]
    exact give_swb _ _ (by simp only [upd, if_true]) (ints_closed _)
theorem adopt_done {σ : Sto} {key : Nat} {E sz n : Nat} {cs : List AV} (l : List UInt8) (b : Bool) (hc : closedL cs = true) : adopt σ key (.t [S l, .o E sz n cs, B b]) = some (.t [S l, .w (key + 1) 0 n, B b], upd σ (key + 1) (some (.row E sz n cs))) := by
  simp only [adopt]
  rw [if_neg (by simp [closedL, closed]), if_pos (by simp)]
  have q1 : ∀ σ key, adopt1 σ key (S l) = some (S l, σ) := fun σ key => adopt1_closed rfl
  have q2 : ∀ σ key, adopt1 σ key (B b) = some (B b, σ) := fun σ key => adopt1_closed rfl
  have q3 : ∀ σ key, adopt1 σ key (.o E sz n cs) = some (.w key 0 n, upd σ key (some (.row E sz n cs))) := fun σ key => adopt1_o hc
  simp only [adoptL, q1, q2, q3, Option.bind_some, Option.map_some]
theorem adopt_undone {σ : Sto} {key : Nat} : adopt σ key (.t [S [], .s true 0 [], B false]) = some (.t [S [], .s true 0 [], B false], σ) := rfl
set_option maxHeartbeats 4000000 in
theorem specSimp_ev (t : List UInt8) (hl : t.length < 4611686018427387904) : EE 71 [S t] = some (.t [S (simpX t).1, B (simpX t).2]) := by
  have h := l10Done_ev t hl
  refine EE_plain T_specSimplifyTerm (by decide) (Nat.le_of_ble_eq_true rfl) rfl ?_
  rw [show opt 71 = [] from rfl]
  simp only [bodyOf, Tryd.f71, SA]
  unfold doneV at h
  unfold simpX
  cases hr : rdT t with
  | none =>
    rw [hr] at h
    simp only [h, hr, adopt_undone, give_sb, TMA, RR, IA, PA, RA0, RA1, RA2, RA3, RA4, RA5, RA6, RA7, RA8, RA9, RA10, Nat.reduceAdd, Nat.reduceMul, Nat.reduceEqDiff, Nat.reduceLeDiff, Nat.reduceLT, Int.reduceToNat, Int.reduceLT, Int.reduceLE, Int.reduceEq, Int.reduceNeg, Int.reduceAdd, Int.reduceSub, Int.reduceMul, reduceIte]
  | some x =>
    rw [hr] at h
    simp only [h, hr, adopt_done _ _ (ints_closed _), give_sb, TMA, RR, IA, PA, RA0, RA1, RA2, RA3, RA4, RA5, RA6, RA7, RA8, RA9, RA10, Nat.reduceAdd, Nat.reduceMul, Nat.reduceEqDiff, Nat.reduceLeDiff, Nat.reduceLT, Int.reduceToNat, Int.reduceLT, Int.reduceLE, Int.reduceEq, Int.reduceNeg, Int.reduceAdd, Int.reduceSub, Int.reduceMul, reduceIte]
def isSimpX (t : List UInt8) : Bool := (simpX t).2 && ((simpX t).1 == t)
theorem implIsSimple_ev (t : List UInt8) (hl : t.length < 4611686018427387904) : EE 36 [S t] = some (B (isSimpX t)) := by
  have h := implSimp_ev t hl
  refine EE_plain T_implIsSimple (by decide) (Nat.le_of_ble_eq_true rfl) rfl ?_
  rw [show opt 36 = [] from rfl]
  simp only [bodyOf, Tryd.f36, SA]
  unfold isSimpX
  generalize simpX t = q at h ⊢
  obtain ⟨a, b⟩ := q
  simp only at h ⊢
  cases b <;> simp only [h, adopt_sbX, TMA, RR, IA, PA, RA0, RA1, RA2, RA3, RA4, RA5, RA6, RA7, RA8, RA9, RA10, Nat.reduceAdd, Nat.reduceMul, Nat.reduceEqDiff, Nat.reduceLeDiff, Nat.reduceLT, Int.reduceToNat, Int.reduceLT, Int.reduceLE, Int.reduceEq, Int.reduceNeg, Int.reduceAdd, Int.reduceSub, Int.reduceMul, reduceIte] <;> rfl
set_option maxHeartbeats 4000000 in
theorem specIsSimple_ev (t : List UInt8) (hl : t.length < 4611686018427387904) : EE 38 [S t] = some (B (isSimpX t)) := by
  have h := specSimp_ev t hl
  refine EE_plain T_specIsSimple (by decide) (Nat.le_of_ble_eq_true rfl) rfl ?_
  rw [show opt 38 = [] from rfl]
  simp only [bodyOf, Tryd.f38, SA]
  unfold isSimpX
  generalize simpX t = q at h ⊢
  obtain ⟨a, b⟩ := q
  simp only at h ⊢
  cases b <;> simp only [h, adopt_sbX, TMA, RR, IA, PA, RA0, RA1, RA2, RA3, RA4, RA5, RA6, RA7, RA8, RA9, RA10, Nat.reduceAdd, Nat.reduceMul, Nat.reduceEqDiff, Nat.reduceLeDiff, Nat.reduceLT, Int.reduceToNat, Int.reduceLT, Int.reduceLE, Int.reduceEq, Int.reduceNeg, Int.reduceAdd, Int.reduceSub, Int.reduceMul, reduceIte] <;> rfl
end
end Go.Proofs.YtegbkihgnofkfaaDoor.Ev
