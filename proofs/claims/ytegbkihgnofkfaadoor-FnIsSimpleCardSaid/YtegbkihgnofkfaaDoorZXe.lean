/-
Texts Xe to Xg of the work.
-/
import Derived.Test.YtegbkihgnofkfaaDoorZXd
/-
Simplifying: the rule that applies to a term, in plain words.
-/
namespace Go.Proofs.YtegbkihgnofkfaaDoor.Ev
section
set_option linter.unusedVariables false
set_option linter.unusedSimpArgs false
open Go Go.RowKit
set_option linter.unusedVariables false
set_option linter.unusedSimpArgs false
/-- A term's sign. -/
def sg : T → UInt8
  | .dig c => c
  | .var c => c
  | .one s _ => s
  | .two s _ _ => s
  | .loop s _ _ _ => s
theorem IsP.form {a : AV} {t : T} (h : IsP a t) : ∃ v ex n cs, a = .p [S [sg t], S v, .s ex n cs] := by cases h <;> exact ⟨_, _, _, _, rfl⟩
def foldM (s : UInt8) : T → T → Option UInt8
  | .dig c, .dig d => if s = 64 then none else if numG s ((c.toNat : Int) - 48) ((d.toNat : Int) - 48) < 10 then some (UInt8.ofNat (48 + (numG s ((c.toNat : Int) - 48) ((d.toNat : Int) - 48)).toNat)) else none
  | _, _ => none
def n1 (p s : UInt8) : Bool := (decide (p = 48) && decide (s = 43)) || ((decide (p = 48) && decide (s = 94)) || (decide (p = 49) && decide (s = 42)))
def n2 (q s : UInt8) : Bool := (decide (s = 43) && decide (q = 48)) || ((decide (s = 94) && decide (q = 48)) || ((decide (s = 42) && decide (q = 49)) || (decide (s = 45) && decide (q = 48))))
def neuM (s : UInt8) (x y : T) : Option T := if n1 (sg x) s = true then some y else if n2 (sg y) s = true then some x else none
def oneM (s : UInt8) : T → Option (Nat × T)
  | .one q z => if q = 82 then (if s = 82 then some (3, z) else if s = 83 ∨ s = 77 ∨ s = 78 then some (3, .one s z) else none) else none
  | .loop q w a b => if q = 91 ∧ s = 78 then some (5, .one 78 a) else none
  | _ => none
def loopM (s v : UInt8) (y : T) : Bool := if s = 91 then decide (sg y = v) else isDigT y && !decide (sg y = 48)
def fuseM (s v : UInt8) : T → T → Option T
  | .loop q w a b, u => if s = 91 ∧ q = 91 then fuM v w a b u else none
  | _, _ => none
/-- The rule that applies, and what it makes of the term. -/
def ruleT : T → Option (Nat × T)
  | .dig _ => none
  | .var _ => none
  | .one s x => oneM s x
  | .two s x y => match foldM s x y with
    | some d => some (1, .dig d)
    | none => (neuM s x y).map fun t => (2, t)
  | .loop s v x y => if loopM s v y = true then some (4, x) else (fuseM s v x y).map fun t => (6, t)
/-- What the program's rule gives. -/
def RuleR (r : AV) : Option (Nat × T) → Prop
  | none => r = .t [N 0, nilP]
  | some (k, t) => ∃ b, r = .t [N k, b] ∧ IsP b t
theorem isDigT_of {t : T} (hw : WF t) : isDigT t = isDig (sg t) := by
  cases t with
  | dig c => exact hw.symm
  | var c => exact (var_not_dig hw).symm
  | one s x =>
    have h := hw.1
    have h2 : s = 83 ∨ s = 77 ∨ s = 73 ∨ s = 78 ∨ s = 82 ∨ s = 67 ∨ s = 80 := by simpa [isOne] using h
    rcases h2 with rfl | rfl | rfl | rfl | rfl | rfl | rfl <;> rfl
  | two s x y =>
    have h := hw.1
    have h2 : s = 43 ∨ s = 42 ∨ s = 94 ∨ s = 45 ∨ s = 61 ∨ s = 60 ∨ s = 64 := by simpa [isTwo] using h
    rcases h2 with rfl | rfl | rfl | rfl | rfl | rfl | rfl <;> rfl
  | loop s v x y =>
    rcases hw.1 with h | h <;> rw [h] <;> rfl
theorem not_dig {t : T} (hw : WF t) (h : isDigT t = false) : ¬ (sg t = 48) ∧ ¬ (sg t = 49) := by
  rw [isDigT_of hw] at h
  constructor <;> intro e <;> rw [e] at h <;> revert h <;> decide
/-- The rule's answers handed over. -/
theorem give_rule {σ : Sto} {b : AV} {t : T} (k : Nat) (h : IsP b t) : giveAll σ [.v (.int .i64 (k : Int)), b] = some (.t [.v (.int .i64 (k : Int)), b]) := give_two rfl h.closed
theorem beq_pair (p s c d : UInt8) : (([p, s] : List UInt8) == [c, d]) = (decide (p = c) && decide (s = d)) := by
  rw [Bool.eq_iff_iff]
  simp
theorem str_add11 (a b : UInt8) : strBin .add ⟨List.toArray [a]⟩ ⟨List.toArray [b]⟩ = some (S [a, b]) := str_add (by simp)
theorem handC_give (xs : List AV) : handC 95 xs = none := by
  unfold handC
  rw [if_neg (by decide)]
theorem handC_itoa (xs : List AV) : handC 96 xs = none := by
  unfold handC
  rw [if_neg (by decide)]
theorem give_ev (s : UInt8) (X Y : Int) (h6 : isSix s = true) (h1 : 0 ≤ X) (h2 : X ≤ 9) (h3 : 0 ≤ Y) (h4 : Y ≤ 9) : EE 95 [S [s], .s true 2 [N X, .s true 0 [], N Y, .s true 0 []]] = some (.a [N (numG s X Y), .s true 0 []]) := EE_hand (by
  unfold hand
  simp only [handC_give, handF, S, N]
  rw [if_pos ⟨trivial, h1, h2, h3, h4⟩]
  simp only [h6, if_true])
theorem itoa_ev (g : Int) (h0 : 0 ≤ g) (h9 : g < 10) : EE 96 [N g] = some (S [UInt8.ofNat (48 + g.toNat)]) := EE_hand (by
  unfold hand
  simp only [handC_itoa, handF, N]
  rw [if_pos ⟨trivial, h0, h9⟩])
theorem numG_nn (s : UInt8) (X Y : Int) (h1 : 0 ≤ X) (h3 : 0 ≤ Y) : 0 ≤ numG s X Y := by
  unfold numG
  repeat' split
  · omega
  · exact Int.mul_nonneg h1 h3
  · omega
  · omega
  · omega
  · omega
  · omega
  · omega
theorem numG_fail (s : UInt8) (c d : UInt8) (X Y : Int) (hX : X = (c.toNat : Int) - 48) (hY : Y = (d.toNat : Int) - 48) (h1 : 0 ≤ X) (h2 : X ≤ 9) (h3 : 0 ≤ Y) (h4 : Y ≤ 9) (h : ¬ numG s X Y < 10) :
    (decide (c = 48) && decide (s = 43)) = false ∧ (decide (c = 48) && decide (s = 94)) = false ∧ (decide (c = 49) && decide (s = 42)) = false ∧ (decide (s = 43) && decide (d = 48)) = false ∧ (decide (s = 94) && decide (d = 48)) = false ∧ (decide (s = 42) && decide (d = 49)) = false ∧ (decide (s = 45) && decide (d = 48)) = false := by
  have e48 : ((48 : UInt8).toNat : Int) = 48 := rfl
  have e49 : ((49 : UInt8).toNat : Int) = 49 := rfl
  refine ⟨?_, ?_, ?_, ?_, ?_, ?_, ?_⟩ <;> rw [Bool.and_eq_false_iff, decide_eq_false_iff_not, decide_eq_false_iff_not, ← Classical.not_and_iff_not_or_not] <;> rintro ⟨a, b⟩ <;> subst a <;> subst b <;> apply h
  · have : numG 43 X Y = X + Y := rfl
    rw [this]; omega
  · have : numG 94 X Y = max X Y := rfl
    rw [this]; omega
  · have : numG 42 X Y = X * Y := rfl
    have hX1 : X = 1 := by omega
    rw [this, hX1]; omega
  · have : numG 43 X Y = X + Y := rfl
    rw [this]; omega
  · have : numG 94 X Y = max X Y := rfl
    rw [this]; omega
  · have : numG 42 X Y = X * Y := rfl
    have hY1 : Y = 1 := by omega
    rw [this, hY1]; omega
  · have : numG 45 X Y = max 0 (X - Y) := rfl
    rw [this]; omega
theorem six_of {s : UInt8} (h : isTwo s = true) (h64 : ¬ s = 64) : isSix s = true := by
  have h2 : s = 43 ∨ s = 42 ∨ s = 94 ∨ s = 45 ∨ s = 61 ∨ s = 60 ∨ s = 64 := by simpa [isTwo] using h
  rcases h2 with rfl | rfl | rfl | rfl | rfl | rfl | rfl <;> first | rfl | exact absurd rfl h64
theorem dig_val {c : UInt8} (h : isDig c = true) : (0 : Int) ≤ (c.toNat : Int) - 48 ∧ (c.toNat : Int) - 48 ≤ 9 := by
  simp only [isDig, Bool.and_eq_true, decide_eq_true_eq] at h
  omega
theorem wrapU (n : Int) (h1 : 0 ≤ n) (h2 : n ≤ 255) : IntKind.u8.wrap n = n := by
  exact wrap8 (x := n) h1 (by omega)
theorem T_rule : TT 74 = some (Tryd.f74, bodyOf Tryd.f74) := by kernel_rfl
theorem opt_rule : opt 74 = [oBox 57, oReg 8] := rfl
set_option maxHeartbeats 4000000 in
theorem rule_leaf (ex : Bool) (c : UInt8) (t : T) (hp : IsP (.p [S [c], S [], .s ex 0 []]) t) : EE 74 [.p [S [c], S [], .s ex 0 []]] = some (.t [N 0, nilP]) := by
  refine EE_plain T_rule (by decide) (Nat.le_of_ble_eq_true rfl) rfl ?_
  rw [opt_rule]
  simp only [bodyOf, Tryd.f74, SA]
  simp only [TMA, RR, IA, PA, RA0, RA1, RA2, RA3, RA4, RA5, RA6, RA7, RA8, RA9, RA10, Nat.reduceAdd, Nat.reduceMul, Nat.reduceEqDiff, Nat.reduceLeDiff, Nat.reduceLT, Int.reduceToNat, Int.reduceLT, Int.reduceLE, Int.reduceEq, Int.reduceNeg, Int.reduceAdd, Int.reduceSub, Int.reduceMul, reduceIte]
end
end Go.Proofs.YtegbkihgnofkfaaDoor.Ev

/-
Simplifying: the implementation's rule for a sign between two digits.
-/
namespace Go.Proofs.YtegbkihgnofkfaaDoor.Ev
section
set_option linter.unusedVariables false
set_option linter.unusedSimpArgs false
open Go Go.RowKit
set_option linter.unusedVariables false
set_option linter.unusedSimpArgs false
set_option maxHeartbeats 8000000 in
theorem rule_digits (ex e1 e2 : Bool) (s c d : UInt8) (h64 : ¬ s = 64) (hs : isTwo s = true) (hc : isDig c = true) (hd : isDig d = true) : ∃ r, EE 74 [.p [S [s], S [], .s ex 2 [.p [S [c], S [], .s e1 0 []], .p [S [d], S [], .s e2 0 []]]]] = some r ∧ RuleR r (ruleT (.two s (.dig c) (.dig d))) := by
  have hlo := loop_is (.two ex s (.dig e1 c) (.dig e2 d))
  have hd1 := digit_is (.dig e1 c) hc
  have hd2 := digit_is (.dig e2 d) hd
  simp only [isDigT] at hd1 hd2
  have hrun : ∀ y, (evC II EE (withOpt [oBox 57, oReg 8] pf) MX (strip (bodyOf Tryd.f74)) (St.init [.p [S [s], S [], .s ex 2 [.p [S [c], S [], .s e1 0 []], .p [S [d], S [], .s e2 0 []]]]])).bind (resK II Tryd.f74.results.toList) = some y → EE 74 [.p [S [s], S [], .s ex 2 [.p [S [c], S [], .s e1 0 []], .p [S [d], S [], .s e2 0 []]]]] = some y := fun y h => EE_plain T_rule (by decide) (Nat.le_of_ble_eq_true rfl) rfl (by rw [opt_rule]; exact h)
  obtain ⟨x1, x2⟩ := dig_val hc
  obtain ⟨y1, y2⟩ := dig_val hd
  have w1 := wrapU _ x1 (by omega)
  have w2 := wrapU _ y1 (by omega)
  have w3 : IntKind.i64.wrap ((c.toNat : Int) - 48) = (c.toNat : Int) - 48 := wrap64 (by omega) (by omega)
  have w4 : IntKind.i64.wrap ((d.toNat : Int) - 48) = (d.toNat : Int) - 48 := wrap64 (by omega) (by omega)
  have hgv := give_ev s _ _ (six_of hs h64) x1 x2 y1 y2
  have hnn := numG_nn s _ _ x1 y1
  have hR : ruleT (.two s (.dig c) (.dig d)) = match (if numG s ((c.toNat : Int) - 48) ((d.toNat : Int) - 48) < 10 then some (UInt8.ofNat (48 + (numG s ((c.toNat : Int) - 48) ((d.toNat : Int) - 48)).toNat)) else none) with
      | some d => some (1, T.dig d)
      | none => (neuM s (.dig c) (.dig d)).map fun t => (2, t) := by
    show (match foldM s (.dig c) (.dig d) with | some d => some (1, T.dig d) | none => (neuM s (.dig c) (.dig d)).map fun t => (2, t)) = _
    rw [foldM, if_neg h64]
  rw [hR]
  clear hR
  have hfail := numG_fail s c d _ _ rfl rfl x1 x2 y1 y2
  generalize numG s ((c.toNat : Int) - 48) ((d.toNat : Int) - 48) = g at *
  have hpk : ∀ σ, pureK σ (.a [N g, .s true 0 []]) = some (.a [N g, .s true 0 []], σ) := fun _ => rfl
  by_cases hlt : g < 10
  · rw [if_pos hlt]
    have hit := itoa_ev g hnn hlt
    generalize UInt8.ofNat (48 + g.toNat) = dd at *
    refine ⟨_, hrun _ ?_, _, rfl, .dig true dd⟩
    simp only [bodyOf, Tryd.f74, SA]
    simp only [hlo, hd1, hd2, hit, isLoop, beq_pair, str_add11, h64, w1, w2, w3, w4, hgv, hpk, hlt, TMA, RR, IA, PA, RA0, RA1, RA2, RA3, RA4, RA5, RA6, RA7, RA8, RA9, RA10, Nat.reduceAdd, Nat.reduceMul, Nat.reduceEqDiff, Nat.reduceLeDiff, Nat.reduceLT, Int.reduceToNat, Int.reduceLT, Int.reduceLE, Int.reduceEq, Int.reduceNeg, Int.reduceAdd, Int.reduceSub, Int.reduceMul, reduceIte]
  · rw [if_neg hlt]
    obtain ⟨k1, k2, k3, k4, k5, k6, k7⟩ := hfail hlt
    have hneu : neuM s (.dig c) (.dig d) = none := by
      have e1 : n1 c s = false := by unfold n1; rw [k1, k2, k3]; rfl
      have e2 : n2 d s = false := by unfold n2; rw [k4, k5, k6, k7]; rfl
      show (if n1 c s = true then some (T.dig d) else if n2 d s = true then some (T.dig c) else none) = none
      rw [e1, e2]
      rfl
    rw [hneu]
    refine ⟨_, hrun _ ?_, rfl⟩
    simp only [bodyOf, Tryd.f74, SA]
    simp only [hlo, hd1, hd2, isLoop, beq_pair, str_add11, h64, w1, w2, w3, w4, hgv, hpk, hlt, k1, k2, k3, k4, k5, k6, k7, TMA, RR, IA, PA, RA0, RA1, RA2, RA3, RA4, RA5, RA6, RA7, RA8, RA9, RA10, Nat.reduceAdd, Nat.reduceMul, Nat.reduceEqDiff, Nat.reduceLeDiff, Nat.reduceLT, Int.reduceToNat, Int.reduceLT, Int.reduceLE, Int.reduceEq, Int.reduceNeg, Int.reduceAdd, Int.reduceSub, Int.reduceMul, reduceIte]
end
end Go.Proofs.YtegbkihgnofkfaaDoor.Ev
