/-
Texts Za to Za of the work.
-/
import Derived.Test.YtegbkihgnofkfaaDoorZYp
/-
Simplifying: the rule for a text's term: the law.
-/
namespace Go.Proofs.YtegbkihgnofkfaaDoor.Ev
section
set_option linter.unusedVariables false
set_option linter.unusedSimpArgs false
open Go Go.RowKit
set_option linter.unusedVariables false
set_option linter.unusedSimpArgs false
theorem T_implRuleFor : TT 43 = some (Tryd.f43, bodyOf Tryd.f43) := by kernel_rfl
/-- The number of a term's rule. -/
def rulN (t : T) : Int := match ruleT t with
  | some (k, _) => (k : Int)
  | none => 0
def rulX (t : List UInt8) : Int := match rdT t with
  | some x => rulN x
  | none => -1
theorem adopt_encPX (σ : Sto) (key : Nat) (x : T) : adopt σ key (encP x) = some (encP x, σ) := by cases x <;> first | rfl | (simp only [adopt, encP]; exact adopt1_closed (by simp only [closed, closedL, encP_closed, Bool.and_self]))
theorem adopt_nilPX (σ : Sto) (key : Nat) : adopt σ key nilP = some (nilP, σ) := rfl
theorem adopt_nbX (σ : Sto) (key : Nat) (x : T) (b : Bool) : adopt σ key (.t [.a (encN x), B b]) = some (.t [.a (encN x), B b], σ) := adopt_two (by simp only [closed, encN_closed]) rfl
theorem adopt_zbX (σ : Sto) (key : Nat) (b : Bool) : adopt σ key (.t [.a zc, B b]) = some (.t [.a zc, B b], σ) := adopt_two rfl rfl
theorem zc_lenX : zc.length = 3 := rfl
theorem zc_leafX : zc.all leafOk = true := rfl
theorem adopt_rn (σ : Sto) (key : Nat) {b : AV} (n : Int) (h : closed b = true) : adopt σ key (.t [N n, b]) = some (.t [N n, b], σ) := adopt_two rfl h
/-- What rule gives: a number and a pointer. -/
theorem rule_num {r : AV} {t : T} (h : RuleR r (ruleT t)) : ∃ b, r = .t [N (rulN t), b] ∧ closed b = true := by
  unfold rulN
  cases hr : ruleT t with
  | none =>
    rw [hr] at h
    exact ⟨nilP, h, rfl⟩
  | some q =>
    obtain ⟨k, u⟩ := q
    rw [hr] at h
    obtain ⟨b, rfl, hb⟩ := h
    exact ⟨b, rfl, hb.closed⟩
theorem rule_numS {r : AV} {t : T} (h : RulS r t (ruleT t)) : ∃ cs u, r = .t [N (rulN t), .a cs] ∧ IsN cs u := by
  unfold rulN
  cases hr : ruleT t with
  | none =>
    rw [hr] at h
    obtain ⟨cs, rfl, hb⟩ := h
    exact ⟨cs, _, rfl, hb⟩
  | some q =>
    obtain ⟨k, u⟩ := q
    rw [hr] at h
    obtain ⟨cs, rfl, hb⟩ := h
    exact ⟨cs, _, rfl, hb⟩
theorem rd_len {t : List UInt8} {x : T} (h : rdT t = some x) : (textT x).length ≤ 80 := by
  have h1 := rdT_text h
  have h2 := (rdT_wf h).2.2
  rw [h1] at h2
  exact h2
theorem call0_encP {σ : Sto} {key : Nat} {f : FuncId} {pf' : FuncId → Nat} {x : T} {r : AV} (hp : pf' f = 0) (hr : EE f [encP x] = some r) : callOp EE pf' σ key f [encP x] = adopt σ key r := by
  rw [call0_eq hp (by simp only [closedL, encP_closed, Bool.and_self]), hr]
  rfl
set_option maxHeartbeats 4000000 in
theorem implRuleFor_ev (t : List UInt8) (hl : t.length < 4611686018427387904) : EE 43 [S t] = some (N (rulX t)) := by
  have h := termOf_ev t hl
  refine EE_plain T_implRuleFor (by decide) (Nat.le_of_ble_eq_true rfl) rfl ?_
  rw [show opt 43 = [] from rfl]
  simp only [bodyOf, Tryd.f43, SA]
  cases hr : rdT t with
  | none =>
    rw [hr] at h
    simp only [h, rulX, hr, adopt_nilPX, TMA, RR, IA, PA, RA0, RA1, RA2, RA3, RA4, RA5, RA6, RA7, RA8, RA9, RA10, Nat.reduceAdd, Nat.reduceMul, Nat.reduceEqDiff, Nat.reduceLeDiff, Nat.reduceLT, Int.reduceToNat, Int.reduceLT, Int.reduceLE, Int.reduceEq, Int.reduceNeg, Int.reduceAdd, Int.reduceSub, Int.reduceMul, reduceIte]
  | some x =>
    rw [hr] at h
    obtain ⟨r, h1, h2⟩ := rule_ev (encP_is x) (rdT_wf hr).1 (by have := rd_len hr; omega)
    obtain ⟨b, rfl, hb⟩ := rule_num h2
    simp only [h, h1, hb, adopt_rn _ _ _ hb, rulX, hr, adopt_encPX, TMA, RR, IA, PA, RA0, RA1, RA2, RA3, RA4, RA5, RA6, RA7, RA8, RA9, RA10, Nat.reduceAdd, Nat.reduceMul, Nat.reduceEqDiff, Nat.reduceLeDiff, Nat.reduceLT, Int.reduceToNat, Int.reduceLT, Int.reduceLE, Int.reduceEq, Int.reduceNeg, Int.reduceAdd, Int.reduceSub, Int.reduceMul, reduceIte]
end
end Go.Proofs.YtegbkihgnofkfaaDoor.Ev
