/-
Texts Zb to Zb of the work.
-/
import Derived.Test.YtegbkihgnofkfaaDoorZZa
/-
Simplifying: one step of it: what it makes is a shorter term; the law.
-/
namespace Go.Proofs.YtegbkihgnofkfaaDoor.Ev
section
set_option linter.unusedVariables false
set_option linter.unusedSimpArgs false
open Go Go.RowKit
set_option linter.unusedVariables false
set_option linter.unusedSimpArgs false
theorem isDig_of (g : Nat) (h : g < 10) : isDig (UInt8.ofNat (48 + g)) = true := by
  have ht : (UInt8.ofNat (48 + g)).toNat = 48 + g := by rw [UInt8.toNat_ofNat', Nat.mod_eq_of_lt (by omega)]
  simp only [isDig, ht, Bool.and_eq_true, decide_eq_true_eq]
  omega
theorem text_pos (t : T) : 0 < (textT t).length := by cases t <;> simp [textT]
theorem oneM_wf {s : UInt8} {x : T} (hw : WF (.one s x)) {k : Nat} {u : T} (h : oneM s x = some (k, u)) : WF u ∧ (textT u).length < (textT (.one s x)).length ∧ 0 < k := by
  cases x with
  | one q z =>
    simp only [oneM] at h
    split at h
    · split at h
      · simp only [Option.some.injEq, Prod.mk.injEq] at h
        obtain ⟨rfl, rfl⟩ := h
        refine ⟨hw.2.2, ?_, by omega⟩
        simp only [textT, List.length_cons]; omega
      · split at h
        · simp only [Option.some.injEq, Prod.mk.injEq] at h
          obtain ⟨rfl, rfl⟩ := h
          refine ⟨⟨hw.1, hw.2.2⟩, ?_, by omega⟩
          simp only [textT, List.length_cons]; omega
        · cases h
    · cases h
  | loop q w a b =>
    simp only [oneM] at h
    split at h
    · rename_i hq
      simp only [Option.some.injEq, Prod.mk.injEq] at h
      obtain ⟨rfl, rfl⟩ := h
      refine ⟨⟨by decide, hw.2.2.2.1⟩, ?_, by omega⟩
      simp only [textT, List.length_cons, List.length_append, List.length_nil]; omega
    · cases h
  | dig c => cases h
  | var c => cases h
  | two q a b => cases h
theorem foldM_wf {s : UInt8} {x y : T} (hw : WF (.two s x y)) {d : UInt8} (h : foldM s x y = some d) : isDig d = true := by
  unfold foldM at h
  split at h
  · rename_i c e
    split at h
    · cases h
    · split at h
      · rename_i hlt
        obtain rfl := Option.some.inj h
        obtain ⟨x1, x2⟩ := dig_val (show isDig c = true from hw.2.1)
        obtain ⟨y1, y2⟩ := dig_val (show isDig e = true from hw.2.2)
        have := numG_nn s _ _ x1 y1
        exact isDig_of _ (by omega)
      · cases h
  · cases h
theorem neuM_wf {s : UInt8} {x y : T} {u : T} (h : neuM s x y = some u) : u = x ∨ u = y := by
  unfold neuM at h
  split at h
  · exact .inr (Option.some.inj h).symm
  · split at h
    · exact .inl (Option.some.inj h).symm
    · cases h
theorem fuM_wf {v w : UInt8} {a b u r : T} (hw : WF (.loop 91 v (.loop 91 w a b) u)) (h : fuM v w a b u = some r) : WF r ∧ (textT r).length < (textT (.loop 91 v (.loop 91 w a b) u)).length := by
  unfold fuM at h
  split at h
  · cases h
  · rename_i hn
    obtain ⟨p, hp, rfl⟩ := Option.map_eq_some_iff.1 h
    have hl := pt_len v b u p hp
    have hwp := pt_wf v hw.2.2.1.2.2.2 u p hw.2.2.2 hp
    refine ⟨⟨.inl rfl, hw.2.2.1.2.1, hw.2.2.1.2.2.1, hwp⟩, ?_⟩
    simp only [textT, List.length_cons, List.length_append, List.length_nil]
    have hf : fr v u = 0 ∨ fr v u = 1 := by
      have : ¬ 1 < fr v u := fun h => hn (.inl h)
      omega
    rcases hf with e | e <;> rw [e] at hl <;> omega
/-- What a rule makes is a shorter term. -/
theorem ruleT_wf {t : T} (hw : WF t) {k : Nat} {u : T} (h : ruleT t = some (k, u)) : WF u ∧ (textT u).length < (textT t).length ∧ 0 < k := by
  cases t with
  | dig c => cases h
  | var c => cases h
  | one s x => exact oneM_wf hw h
  | two s x y =>
    simp only [ruleT] at h
    split at h
    · rename_i d hd
      simp only [Option.some.injEq, Prod.mk.injEq] at h
      obtain ⟨rfl, rfl⟩ := h
      refine ⟨foldM_wf hw hd, ?_, by omega⟩
      simp only [textT, List.length_cons, List.length_append, List.length_nil]; omega
    · obtain ⟨q, hq, hk⟩ := Option.map_eq_some_iff.1 h
      simp only [Prod.mk.injEq] at hk
      obtain ⟨rfl, rfl⟩ := hk
      rcases neuM_wf hq with rfl | rfl
      · refine ⟨hw.2.1, ?_, by omega⟩
        simp only [textT, List.length_cons, List.length_append, List.length_nil]; omega
      · refine ⟨hw.2.2, ?_, by omega⟩
        simp only [textT, List.length_cons, List.length_append, List.length_nil]; omega
  | loop s v x y =>
    simp only [ruleT] at h
    split at h
    · simp only [Option.some.injEq, Prod.mk.injEq] at h
      obtain ⟨rfl, rfl⟩ := h
      refine ⟨hw.2.2.1, ?_, by omega⟩
      simp only [textT, List.length_cons, List.length_append, List.length_nil]; omega
    · obtain ⟨q, hq, hk⟩ := Option.map_eq_some_iff.1 h
      simp only [Prod.mk.injEq] at hk
      obtain ⟨rfl, rfl⟩ := hk
      cases x with
      | loop q w a b =>
        simp only [fuseM] at hq
        split at hq
        · rename_i hs
          obtain ⟨rfl, rfl⟩ := hs
          have := fuM_wf hw hq
          exact ⟨this.1, this.2, by omega⟩
        · cases hq
      | dig c => cases hq
      | var c => cases hq
      | one q z => cases hq
      | two q a b => cases hq
set_option maxHeartbeats 4000000 in
/-- The text of a term in the reference, whatever slices it was made by. -/
theorem l5TextN_ev {cs : List AV} {t : T} (h : IsN cs t) : WF t → (textT t).length ≤ 1000000 → EE 65 [.a cs] = some (S (textT t)) := by
  induction h with
  | dig ex c =>
    intro hw hb
    refine EE_plain T_l5Text (by decide) (Nat.le_of_ble_eq_true rfl) (cl1 (.dig ex c)) ?_
    rw [show opt 65 = [] from rfl]
    simp only [bodyOf, Tryd.f65, SA]
    simp only [textT, TMA, RR, IA, PA, RA0, RA1, RA2, RA3, RA4, RA5, RA6, RA7, RA8, RA9, RA10, Nat.reduceAdd, Nat.reduceMul, Nat.reduceEqDiff, Nat.reduceLeDiff, Nat.reduceLT, Int.reduceToNat, Int.reduceLT, Int.reduceLE, Int.reduceEq, Int.reduceNeg, Int.reduceAdd, Int.reduceSub, Int.reduceMul, reduceIte]
  | var ex c =>
    intro hw hb
    refine EE_plain T_l5Text (by decide) (Nat.le_of_ble_eq_true rfl) (cl1 (.var ex c)) ?_
    rw [show opt 65 = [] from rfl]
    simp only [bodyOf, Tryd.f65, SA]
    simp only [textT, TMA, RR, IA, PA, RA0, RA1, RA2, RA3, RA4, RA5, RA6, RA7, RA8, RA9, RA10, Nat.reduceAdd, Nat.reduceMul, Nat.reduceEqDiff, Nat.reduceLeDiff, Nat.reduceLT, Int.reduceToNat, Int.reduceLT, Int.reduceLE, Int.reduceEq, Int.reduceNeg, Int.reduceAdd, Int.reduceSub, Int.reduceMul, reduceIte]
  | @one ex s cx x h ih =>
    intro hw hb
    simp only [textT, List.length_cons, List.length_append, List.length_nil] at hb
    have hx := ih hw.2 (by omega)
    refine EE_plain T_l5Text (by decide) (Nat.le_of_ble_eq_true rfl) (cl1 (.one ex s h)) ?_
    rw [show opt 65 = [] from rfl]
    simp only [bodyOf, Tryd.f65, SA]
    simp only [textT, hx, h.len, h.tk, h.closed, h.leaf, str_addIf, TMA, RR, IA, PA, RA0, RA1, RA2, RA3, RA4, RA5, RA6, RA7, RA8, RA9, RA10, Nat.reduceAdd, Nat.reduceMul, Nat.reduceEqDiff, Nat.reduceLeDiff, Nat.reduceLT, Int.reduceToNat, Int.reduceLT, Int.reduceLE, Int.reduceEq, Int.reduceNeg, Int.reduceAdd, Int.reduceSub, Int.reduceMul, reduceIte]
    rw [if_pos (by omega)]
  | @two ex s cx cy x y h k ihx ihy =>
    intro hw hb
    simp only [textT, List.length_cons, List.length_append, List.length_nil] at hb
    have hx := ihx hw.2.1 (by omega)
    have hy := ihy hw.2.2 (by omega)
    refine EE_plain T_l5Text (by decide) (Nat.le_of_ble_eq_true rfl) (cl1 (.two ex s h k)) ?_
    rw [show opt 65 = [] from rfl]
    simp only [bodyOf, Tryd.f65, SA]
    simp only [textT, hx, hy, two_name, h.len2 k, h.tk2, h.dr2, h.len, h.tk, h.closed, h.leaf, k.len, k.tk, k.closed, k.leaf, str_addIf, List.length_append, List.append_assoc, TMA, RR, IA, PA, RA0, RA1, RA2, RA3, RA4, RA5, RA6, RA7, RA8, RA9, RA10, Nat.reduceAdd, Nat.reduceMul, Nat.reduceEqDiff, Nat.reduceLeDiff, Nat.reduceLT, Int.reduceToNat, Int.reduceLT, Int.reduceLE, Int.reduceEq, Int.reduceNeg, Int.reduceAdd, Int.reduceSub, Int.reduceMul, reduceIte]
    repeat rw [if_pos (by omega)]
  | @loop ex s v cx cy x y h k ihx ihy =>
    intro hw hb
    simp only [textT, List.length_cons, List.length_append, List.length_nil] at hb
    have hx := ihx hw.2.2.1 (by omega)
    have hy := ihy hw.2.2.2 (by omega)
    have hv0 : ¬ ((v.toNat : Int) = 0) := by
      have := hw.2.1
      simp only [isLV, Bool.and_eq_true, decide_eq_true_iff] at this
      omega
    have hs2 : IntKind.u8.wrap ((s.toNat : Int) + 2) = ((s + 2).toNat : Int) := by rcases hw.1 with h | h <;> rw [h] <;> rfl
    refine EE_plain T_l5Text (by decide) (Nat.le_of_ble_eq_true rfl) (cl1 (.loop ex s v h k)) ?_
    rw [show opt 65 = [] from rfl]
    simp only [bodyOf, Tryd.f65, SA]
    simp only [textT, hx, hy, hv0, hs2, h.len2 k, h.tk2, h.dr2, h.len, h.tk, h.closed, h.leaf, k.len, k.tk, k.closed, k.leaf, str_addIf, List.length_append, List.append_assoc, TMA, RR, IA, PA, RA0, RA1, RA2, RA3, RA4, RA5, RA6, RA7, RA8, RA9, RA10, Nat.reduceAdd, Nat.reduceMul, Nat.reduceEqDiff, Nat.reduceLeDiff, Nat.reduceLT, Int.reduceToNat, Int.reduceLT, Int.reduceLE, Int.reduceEq, Int.reduceNeg, Int.reduceAdd, Int.reduceSub, Int.reduceMul, reduceIte]
    repeat rw [if_pos (by omega)]
/-- One step of simplifying. -/
def onceX (t : List UInt8) : List UInt8 × Bool := match rdT t with
  | some x => (match ruleT x with
    | some (_, u) => (textT u, true)
    | none => (t, false))
  | none => ([], false)
theorem give_sb {σ : Sto} (l : List UInt8) (b : Bool) : giveAll σ [S l, B b] = some (.t [S l, B b]) := give_two rfl rfl
theorem adopt_sbX (σ : Sto) (key : Nat) (l : List UInt8) (b : Bool) : adopt σ key (.t [S l, B b]) = some (.t [S l, B b], σ) := adopt_two rfl rfl
end
end Go.Proofs.YtegbkihgnofkfaaDoor.Ev
