/-
Texts Zc to Zc of the work.
-/
import Derived.Test.YtegbkihgnofkfaaDoorZZb
import Derived.Test.YtegbkihgnofkfaaDoorZE5
/-
Simplifying to the end: calls that are lent a row behind a pointer, or through one; options.
-/
namespace Go.Proofs.YtegbkihgnofkfaaDoor.Ev
section
set_option linter.unusedVariables false
set_option linter.unusedSimpArgs false
open Go Go.RowKit
set_option linter.unusedVariables false
set_option linter.unusedSimpArgs false
section
variable {I : Tab} {C : Sem1} {pf : FuncId → Nat} {m : Nat} {e : Nat → AV} {σ : Sto} {key : Nat}
theorem pack_row {id n E sz : Nat} {cs : List AV} (hσ : σ id = some (.row E sz n cs)) (hc : closedL cs = true) : pack1 σ (.w id 0 n) = some (lentR n E sz cs, [id]) := by
  simp only [pack1, hσ, deepL_closed 8 hc, Option.bind_some, if_true]
/-- A row that is lent through a pointer to its slice. -/
abbrev lentP (n E sz : Nat) (cs : List AV) : AV := .t [.t [.v (.bool false), ni 0, ni n, .o E sz n cs]]
theorem pack_prow {id n E sz : Nat} {cs : List AV} (hσ : σ id = some (.row E sz n cs)) (hc : closedL cs = true) : pack1 σ (.p [.w id 0 n]) = some (lentP n E sz cs, [id]) := by
  simp only [pack1, hσ, deepL_closed 8 hc, Option.bind_some, if_true]
theorem kill_upd {id : Nat} {s : Option Slot} : upd (killL σ [id]) id s = upd σ id s := by
  funext i
  unfold upd killL
  by_cases e : i = id <;> simp [e]
theorem callL_pr {f : FuncId} {id n E sz : Nat} {ps cs cs' : List AV} {b : AV} (hσ : σ id = some (.row E sz n cs)) (hc : closedL cs = true) (ha : closedL ps = true) (hr : C f [.p ps, lentR n E sz cs] = some (.t [b, .t [.p ps, lentR n E sz cs']])) (hb : room b = 1)
    (had : ∀ σ key, adopt σ key b = some (b, σ)) : callL C σ key f [.p ps, .w id 0 n] = some (b, upd σ id (some (.row E sz n cs'))) := by
  unfold callL
  have h1 : needs σ [.p ps, .w id 0 n] = [] := by simp only [needs, need, hσ, deepL_closed 8 hc, List.append_nil]
  have h2 : deepC (pack1 σ) [.p ps, .w id 0 n] = some ([.p ps, lentR n E sz cs], [id]) := by
    have q : pack1 σ (.p ps) = some (.p ps, []) := pack_goes (by exact ha)
    simp only [deepC, q, pack_row hσ hc, Option.map_some, Option.bind_some, List.nil_append, List.append_nil]
  rw [h1]
  simp only [frz0, h2, Option.bind_some]
  rw [if_pos (by simp), hr]
  simp only [Option.bind_some, back_p ha, back, lentR, kill_upd]
  rw [if_pos (by rw [hb]; omega)]
  exact had _ _
theorem callL_pw {f : FuncId} {id n E sz : Nat} {ds cs cs' : List AV} {b : AV} (hσ : σ id = some (.row E sz n cs)) (hc : closedL cs = true) (ha : closedL ds = true) (hr : C f [lentP n E sz cs, .a ds] = some (.t [b, .t [lentP n E sz cs', .a ds]])) (hb : room b = 1)
    (had : ∀ σ key, adopt σ key b = some (b, σ)) : callL C σ key f [.p [.w id 0 n], .a ds] = some (b, upd σ id (some (.row E sz n cs'))) := by
  unfold callL
  have h1 : needs σ [.p [.w id 0 n], .a ds] = [] := by simp only [needs, need, List.append_nil]
  have h2 : deepC (pack1 σ) [.p [.w id 0 n], .a ds] = some ([lentP n E sz cs, .a ds], [id]) := by
    have q : pack1 σ (.a ds) = some (.a ds, []) := pack_goes (by exact ha)
    simp only [deepC, q, pack_prow hσ hc, Option.map_some, Option.bind_some, List.nil_append, List.append_nil]
  rw [h1]
  simp only [frz0, h2, Option.bind_some]
  rw [if_pos (by simp), hr]
  simp only [Option.bind_some, back, lentP, kill_upd]
  rw [if_pos (by rw [hb]; omega)]
  exact had _ _
theorem call2_L {f : FuncId} {xs : List AV} (hp : pf f = 2) : callOp C pf σ key f xs = callL C σ key f xs := by
  rw [call2_eq hp]
  rfl
theorem call4_L {f : FuncId} {xs : List AV} {r : AV × Sto} (hp : pf f = 4) (h : callL C σ key f xs = some r) (hk : ∀ i, 12 ≤ i → i < pf 1000000000 → r.2 i = σ i) : callOp C pf σ key f xs = some r := by
  unfold callOp
  rw [if_neg (by omega), if_neg (by omega), if_pos hp]
  unfold callF
  rw [h]
  exact if_pos hk
theorem evM_pr {fn : Func} {c : Code} {n E sz : Nat} {ps cs : List AV} (hN : 2 ≤ fn.ntmps) :
    evM I C pf m fn c [.p ps, lentR n E sz cs] = (evC I C pf m c ⟨fun t => [.p ps, .w 0 0 n].getD t (.v undef), upd (fun _ => none) 0 (some (.row E sz n cs)), 1⟩).bind (outK I fn.results.toList [.p ps, .w 0 0 n]) := by
  have hin : inits (fun _ => none) 0 [.p ps, lentR n E sz cs] = ([.p ps, .w 0 0 n], upd (fun _ => none) 0 (some (.row E sz n cs)), 1) := rfl
  unfold evM
  rw [hin]
  simp only
  rw [if_pos ⟨by simpa using hN, by simp⟩]
  congr 1
  funext ⟨x, s⟩
  cases x <;> rfl
theorem evM_pw {fn : Func} {c : Code} {n E sz : Nat} {ds cs : List AV} (hN : 2 ≤ fn.ntmps) :
    evM I C pf m fn c [lentP n E sz cs, .a ds] = (evC I C pf m c ⟨fun t => [.p [.w 0 0 n], .a ds].getD t (.v undef), upd (fun _ => none) 0 (some (.row E sz n cs)), 1⟩).bind (outK I fn.results.toList [.p [.w 0 0 n], .a ds]) := by
  have hin : inits (fun _ => none) 0 [lentP n E sz cs, .a ds] = ([.p [.w 0 0 n], .a ds], upd (fun _ => none) 0 (some (.row E sz n cs)), 1) := rfl
  unfold evM
  rw [hin]
  simp only
  rw [if_pos ⟨by simpa using hN, by simp⟩]
  congr 1
  funext ⟨x, s⟩
  cases x <;> rfl
theorem out_pr {rs : List ResultVar} {s : St} {k n E sz : Nat} {is : List Nat} {ps bs cs : List AV} (h1 : evRes I s rs = some [.r k 0]) (h2 : deep s.σ 8 (.r k 0) = some (.p bs, is)) (h0 : 0 ∉ is) (hσ : s.σ 0 = some (.row E sz n cs)) (hc : closedL cs = true) (ha : closedL ps = true) :
    outK I rs [.p ps, .w 0 0 n] (.ret, s) = some (.t [.p bs, .t [.p ps, lentR n E sz cs]]) := by
  have h3 : giveL s.σ [.r k 0] = some ([.p bs], [], is) := by
    simp only [giveL, give1, h2, Option.map_some, Option.bind_some, List.append_nil]
  have h4 : deepC (packO s.σ) [.p ps, .w 0 0 n] = some ([.p ps, lentR n E sz cs], [0]) := by
    have q : packO s.σ (.p ps) = some (.p ps, []) := packO_goes (by exact ha)
    have q2 : packO s.σ (.w 0 0 n) = _ := pack_row hσ hc
    simp only [deepC, q, q2, Option.map_some, Option.bind_some, List.nil_append, List.append_nil]
  simp only [outK, h1, Option.bind_some, h3, h4]
  rw [if_pos ⟨by simp, by simpa using h0⟩]
theorem out_pw {rs : List ResultVar} {s : St} {n E sz : Nat} {ds bs cs : List AV} (h1 : evRes I s rs = some [.a bs]) (h2 : closedL bs = true) (hσ : s.σ 0 = some (.row E sz n cs)) (hc : closedL cs = true) (ha : closedL ds = true) :
    outK I rs [.p [.w 0 0 n], .a ds] (.ret, s) = some (.t [.a bs, .t [lentP n E sz cs, .a ds]]) := by
  have h3 : giveL s.σ [.a bs] = some ([.a bs], [], []) := giveL_closed (by simp only [closedL, closed, h2, Bool.and_self])
  have h4 : deepC (packO s.σ) [.p [.w 0 0 n], .a ds] = some ([lentP n E sz cs, .a ds], [0]) := by
    have q : packO s.σ (.a ds) = some (.a ds, []) := packO_goes (by exact ha)
    have q2 : packO s.σ (.p [.w 0 0 n]) = _ := pack_prow hσ hc
    simp only [deepC, q, q2, Option.map_some, Option.bind_some, List.nil_append, List.append_nil]
  simp only [outK, h1, Option.bind_some, h3, h4]
  rw [if_pos ⟨by simp, by simp⟩]
end
theorem EE_few_pr (m : Nat) {f : FuncId} {fn : Func} {n E sz : Nat} {ps cs : List AV} {r : AV} (hT : TT f = some (fn, bodyOf fn)) (hp : pf f = 2) (hN : 2 ≤ fn.ntmps)
    (h : (evC II EE (withOpt (opt f) pf) m (strip (bodyOf fn)) ⟨fun t => [.p ps, .w 0 0 n].getD t (.v undef), upd (fun _ => none) 0 (some (.row E sz n cs)), 1⟩).bind (outK II fn.results.toList [.p ps, .w 0 0 n]) = some r) : EE f [.p ps, lentR n E sz cs] = some r :=
  evAll_lent hand_none hT hp (m := m) (by rw [evM_pr hN, ← evC_strip]; exact h)
theorem EE_few_pw (m : Nat) {f : FuncId} {fn : Func} {n E sz : Nat} {ds cs : List AV} {r : AV} (hT : TT f = some (fn, bodyOf fn)) (hp : pf f = 2) (hN : 2 ≤ fn.ntmps)
    (h : (evC II EE (withOpt (opt f) pf) m (strip (bodyOf fn)) ⟨fun t => [.p [.w 0 0 n], .a ds].getD t (.v undef), upd (fun _ => none) 0 (some (.row E sz n cs)), 1⟩).bind (outK II fn.results.toList [.p [.w 0 0 n], .a ds]) = some r) : EE f [lentP n E sz cs, .a ds] = some r :=
  evAll_lent hand_none hT hp (m := m) (by rw [evM_pw hN, ← evC_strip]; exact h)
/-! ### options of the implementation's simplify -/
def LS : List Nat := [oFl 5, oFlS]
def flQ (L : List Nat) (pf : FuncId → Nat) : FuncId → Nat := fun f => if f = oFlOn then 1 else if withOpt L pf f = 2 then 4 else withOpt L pf f
def flR (L : List Nat) (pf : FuncId → Nat) (b : Nat) : FuncId → Nat := fun f => if f = oMask then b else flQ L pf f
theorem plF_LS : plF LS = true := by decide
theorem onS : oMaskOn ∉ LS ∧ oFlOn ∉ LS := by decide
theorem strS : oStrict ∉ LS := by decide
theorem withOptS_lo {pf : FuncId → Nat} {f : Nat} (h : f < 1000000000) : withOpt LS pf f = pf f := withOpt_lo h plF_LS
theorem lookS {pf : FuncId → Nat} {σ : Sto} : lookAt (withOpt LS pf) σ = σ := look_opt strS onS
theorem baseS {pf : FuncId → Nat} (b : Nat) : atBase (withOpt LS pf) b = withOpt LS pf := base_opt onS b
theorem stS {pf : FuncId → Nat} (t' : Nat) (x : AV) : stOk (withOpt LS pf) t' x = true := st_opt onS t' x
theorem regS_off {pf : FuncId → Nat} (id : Nat) (hi : id < 900000000) (h : decide (id = 5) = false) : inReg (withOpt LS pf) id = withOpt LS pf := by
  simp only [decide_eq_false_iff_not] at h
  exact reg_opt (by
    simp only [LS, List.mem_cons, List.not_mem_nil, or_false, oFlS, oFl, oReg]
    omega) (by
    simp only [LS, List.mem_cons, List.not_mem_nil, or_false, oFlS, oFl, oLow]
    omega) (by
    simp only [LS, List.mem_cons, List.not_mem_nil, or_false, oFlS, oFl]
    omega)
theorem regS_5 {pf : FuncId → Nat} : inReg (withOpt LS pf) 5 = flQ LS pf := by
  have h1 : withOpt LS pf (oReg 5) = 0 := by rw [with_hi (by decide), if_neg (by decide)]
  have h2 : withOpt LS pf (oLow 5) = 0 := by rw [with_hi (by decide), if_neg (by decide)]
  have h3 : withOpt LS pf (oFl 5) = 1 := by rw [with_hi (by decide), if_pos (by decide)]
  unfold inReg
  rw [h1, h2, h3]
  rfl
theorem flS_lo {pf : FuncId → Nat} {b f : Nat} (h : f < 1000000000) : flR LS pf b f = if pf f = 2 then 4 else pf f := by
  unfold flR flQ
  rw [if_neg (fun e => by rw [e] at h; exact absurd (show (1000000000 : Nat) < 1000000000 from h) (by decide)), if_neg (fun e => by rw [e] at h; exact absurd (show (5000000001 : Nat) < 1000000000 from h) (by decide)), withOpt_lo h plF_LS]
theorem flS_mask {pf : FuncId → Nat} : flQ LS pf oMaskOn = 0 := by
  have h : withOpt LS pf oMaskOn = 0 := by rw [with_hi (by decide), if_neg onS.1]
  unfold flQ
  rw [if_neg (by decide), h]
  rfl
theorem flS_on {pf : FuncId → Nat} : flQ LS pf oFlOn = 1 := if_pos rfl
theorem flS_S {pf : FuncId → Nat} : flQ LS pf oFlS = 1 := by
  have h : withOpt LS pf oFlS = 1 := by rw [with_hi (by decide), if_pos (by decide)]
  unfold flQ
  rw [if_neg (by decide), h]
  rfl
theorem flS_U {pf : FuncId → Nat} : flQ LS pf oFlU = 0 := by
  have h : withOpt LS pf oFlU = 0 := by rw [with_hi (by decide), if_neg (by decide)]
  unfold flQ
  rw [if_neg (by decide), h]
  rfl
theorem base_flS {pf : FuncId → Nat} (b : Nat) : atBase (flQ LS pf) b = flR LS pf b := by
  unfold atBase
  rw [if_pos (.inr flS_on), flS_mask, flS_U]
  rfl
theorem flS_hi {pf : FuncId → Nat} {b n : Nat} (h : n ≠ oMask) : flR LS pf b n = flQ LS pf n := if_neg h
theorem look_flS {pf : FuncId → Nat} {σ : Sto} (b : Nat) : lookAt (flR LS pf b) σ = fun i => if 12 ≤ i ∧ i < b then σ i else none := by
  have h1 : flR LS pf b oStrict = 0 := by
    have h : withOpt LS pf oStrict = 0 := by rw [with_hi (by decide), if_neg strS]
    rw [flS_hi (by decide)]
    unfold flQ
    rw [if_neg (by decide), h]
    rfl
  have h2 : flR LS pf b oMask = b := if_pos rfl
  unfold lookAt
  rw [h1, flS_hi (show oMaskOn ≠ oMask by decide), flS_mask, flS_hi (show oFlOn ≠ oMask by decide), flS_on, h2]
  rfl
theorem st_flS {pf : FuncId → Nat} (b t' : Nat) (x : AV) : stOk (flR LS pf b) t' x = true := by
  unfold stOk
  rw [flS_hi (show oMaskOn ≠ oMask by decide), flS_mask, flS_hi (show oFlOn ≠ oMask by decide), flS_on, flS_hi (show oFlS ≠ oMask by decide), flS_S]
  rfl
theorem mask_flS {pf : FuncId → Nat} (b : Nat) : flR LS pf b 1000000000 = b := if_pos rfl
/-! ### the plain law -/
/-- A rule counted. -/
def incC (k : Nat) (c : List Int) : List Int := match c[k]? with
  | some n => c.set k (IntKind.i64.wrap (n + 1))
  | none => c
theorem incC_len (k : Nat) (c : List Int) : (incC k c).length = c.length := by
  unfold incC
  cases c[k]? <;> simp
def partsF (f : T × List Int → T × List Int) : T → List Int → T × List Int
  | .dig c, l => (.dig c, l)
  | .var c, l => (.var c, l)
  | .one s x, l => (.one s (f (x, l)).1, (f (x, l)).2)
  | .two s x y, l => (.two s (f (x, l)).1 (f (y, (f (x, l)).2)).1, (f (y, (f (x, l)).2)).2)
  | .loop s v x y, l => (.loop s v (f (x, l)).1 (f (y, (f (x, l)).2)).1, (f (y, (f (x, l)).2)).2)
/-- What is left of a term, and how often each rule was used; n: how long the text may be. -/
def simpF : Nat → T × List Int → T × List Int
  | 0, q => q
  | n + 1, (t, l) => match ruleT (partsF (simpF n) t l).1 with
    | none => partsF (simpF n) t l
    | some (k, u) => simpF n (u, incC k (partsF (simpF n) t l).2)
structure SFit (n : Nat) (t : T) (l : List Int) (q : T × List Int) : Prop where
  wf : WF q.1
  le : (textT q.1).length ≤ (textT t).length
  ln : q.2.length = l.length
theorem partsF_fit {n : Nat} {f : T × List Int → T × List Int} (hf : ∀ x l, WF x → (textT x).length ≤ n → SFit n x l (f (x, l))) {t : T} (hw : WF t) (hl : (textT t).length ≤ n + 1) (l : List Int) : SFit n t l (partsF f t l) := by
  cases t with
  | dig c => exact ⟨hw, Nat.le_refl _, rfl⟩
  | var c => exact ⟨hw, Nat.le_refl _, rfl⟩
  | one s x =>
    simp only [textT, List.length_cons, List.length_append, List.length_nil] at hl
    have h := hf x l hw.2 (by omega)
    refine ⟨⟨hw.1, h.wf⟩, ?_, h.ln⟩
    have := h.le
    simp only [partsF, textT, List.length_cons, List.length_append, List.length_nil]
    omega
  | two s x y =>
    simp only [textT, List.length_cons, List.length_append, List.length_nil] at hl
    have h := hf x l hw.2.1 (by omega)
    have k := hf y (f (x, l)).2 hw.2.2 (by omega)
    refine ⟨⟨hw.1, h.wf, k.wf⟩, ?_, k.ln.trans h.ln⟩
    have h1 := h.le
    have h2 := k.le
    simp only [partsF, textT, List.length_cons, List.length_append, List.length_nil]
    omega
  | loop s v x y =>
    simp only [textT, List.length_cons, List.length_append, List.length_nil] at hl
    have h := hf x l hw.2.2.1 (by omega)
    have k := hf y (f (x, l)).2 hw.2.2.2 (by omega)
    refine ⟨⟨hw.1, hw.2.1, h.wf, k.wf⟩, ?_, k.ln.trans h.ln⟩
    have h1 := h.le
    have h2 := k.le
    simp only [partsF, textT, List.length_cons, List.length_append, List.length_nil]
    omega
theorem simpF_fit : ∀ (n : Nat) (t : T) (l : List Int), WF t → (textT t).length ≤ n → SFit n t l (simpF n (t, l))
  | 0, t, l, hw, hl => by
    have := text_pos t
    omega
  | n + 1, t, l, hw, hl => by
    have hp := partsF_fit (f := simpF n) (fun x l hx hlx => simpF_fit n x l hx hlx) hw hl l
    simp only [simpF]
    cases hr : ruleT (partsF (simpF n) t l).1 with
    | none => exact ⟨hp.wf, hp.le, hp.ln⟩
    | some q =>
      obtain ⟨k, u⟩ := q
      obtain ⟨h1, h2, h3⟩ := ruleT_wf hp.wf hr
      have hle := hp.le
      have h := simpF_fit n u (incC k (partsF (simpF n) t l).2) h1 (by omega)
      exact ⟨h.wf, Nat.le_trans h.le (by omega), h.ln.trans ((incC_len _ _).trans hp.ln)⟩
end
end Go.Proofs.YtegbkihgnofkfaaDoor.Ev
