/-
Texts Yh to Yj of the work.
-/
import Derived.Test.YtegbkihgnofkfaaDoorZYd
import Derived.Test.YtegbkihgnofkfaaDoorZXe
/-
Simplifying: the reference's rules: digits, folding.
-/
namespace Go.Proofs.YtegbkihgnofkfaaDoor.Ev
section
set_option linter.unusedVariables false
set_option linter.unusedSimpArgs false
open Go Go.RowKit
set_option linter.unusedVariables false
set_option linter.unusedSimpArgs false
/-- Is it this digit? -/
def dgt (k : Int) : T → Bool
  | .dig c => decide ((c.toNat : Int) - 48 = k)
  | _ => false
theorem int_ne {c d : UInt8} (h : ¬ c = d) : ¬ ((c.toNat : Int) = (d.toNat : Int)) := ne_int h
theorem u48 : ((48 : UInt8).toNat : Int) = 48 := rfl
theorem sgN_48 {t : T} (hw : WF t) (h : isDigT t = false) : ¬ (((sgN t).toNat : Int) = 48) := by
  have key : ¬ (sgN t = 48) := by
    cases t with
    | dig c => simp [isDigT] at h
    | var c => show ¬ ((97 : UInt8) = 48); decide
    | one s x =>
      intro e
      have e : s = 48 := e
      have := hw.1
      rw [e] at this
      revert this; decide
    | two s x y =>
      intro e
      have e : s = 48 := e
      have := hw.1
      rw [e] at this
      revert this; decide
    | loop s v x y =>
      intro e
      have e : s = 48 := e
      rcases hw.1 with h | h <;> rw [e] at h <;> revert h <;> decide
  exact ne_int key
theorem q4848 : decide (((48 : UInt8).toNat : Int) = 48) = true := by decide
theorem T_l10Digit : TT 156 = some (Tryd.f156, bodyOf Tryd.f156) := by kernel_rfl
theorem l10Digit_ev {cs : List AV} {t : T} (h : IsN cs t) (hw : WF t) (k : Int) : EE 156 [.a cs, N k] = some (B (dgt k t)) := by
  have hcl : closedL [.a cs, N k] = true := by simp only [closedL, closed, h.closed, Bool.and_self]
  have hl := h.leaf
  obtain ⟨ex, n, l, rfl⟩ := h.form
  refine EE_plain T_l10Digit (by decide) (Nat.le_of_ble_eq_true rfl) hcl ?_
  rw [show opt 156 = [] from rfl]
  simp only [bodyOf, Tryd.f156, SA]
  cases hd : isDigT t with
  | false =>
    have n48 := sgN_48 hw hd
    have hz : dgt k t = false := by cases t <;> first | rfl | (simp [isDigT] at hd)
    rw [hz]
    simp only [n48, TMA, RR, IA, PA, RA0, RA1, RA2, RA3, RA4, RA5, RA6, RA7, RA8, RA9, RA10, Nat.reduceAdd, Nat.reduceMul, Nat.reduceEqDiff, Nat.reduceLeDiff, Nat.reduceLT, Int.reduceToNat, Int.reduceLT, Int.reduceLE, Int.reduceEq, Int.reduceNeg, Int.reduceAdd, Int.reduceSub, Int.reduceMul, reduceIte]
  | true =>
    obtain ⟨c, rfl⟩ : ∃ c, t = .dig c := by cases t <;> first | exact ⟨_, rfl⟩ | (simp [isDigT] at hd)
    obtain ⟨x1, x2⟩ := dig_val (show isDig c = true from hw)
    have w0 : IntKind.i64.wrap (c.toNat : Int) = (c.toNat : Int) := wrap64 (by omega) (by omega)
    have w3 : IntKind.i64.wrap ((c.toNat : Int) - 48) = (c.toNat : Int) - 48 := wrap64 (by omega) (by omega)
    simp only [sgN, nmN, dgt, q4848, u48, w0, w3, TMA, RR, IA, PA, RA0, RA1, RA2, RA3, RA4, RA5, RA6, RA7, RA8, RA9, RA10, Nat.reduceAdd, Nat.reduceMul, Nat.reduceEqDiff, Nat.reduceLeDiff, Nat.reduceLT, Int.reduceToNat, Int.reduceLT, Int.reduceLE, Int.reduceEq, Int.reduceNeg, Int.reduceAdd, Int.reduceSub, Int.reduceMul, reduceIte]
theorem T_l3Add : TT 166 = some (Tryd.f166, bodyOf Tryd.f166) := by kernel_rfl
theorem T_l6Truth : TT 167 = some (Tryd.f167, bodyOf Tryd.f167) := by kernel_rfl
theorem T_l6Number : TT 155 = some (Tryd.f155, bodyOf Tryd.f155) := by kernel_rfl
theorem l3Add_ev (x y : Int) (h1 : 0 ≤ x) (h2 : x ≤ 9) (h3 : 0 ≤ y) (h4 : y ≤ 9) : EE 166 [N x, N y] = some (N (x + y)) := by
  have w1 : IntKind.i64.wrap (x + y) = x + y := wrap64 (by omega) (by omega)
  have w2 : IntKind.i64.wrap ((x + y).tmod 10007) = x + y := by rw [Int.tmod_eq_of_lt (by omega) (by omega), w1]
  have w3 : (x + y).tmod 10007 = x + y := Int.tmod_eq_of_lt (by omega) (by omega)
  refine EE_plain T_l3Add (by decide) (Nat.le_of_ble_eq_true rfl) rfl ?_
  rw [show opt 166 = [] from rfl]
  simp only [bodyOf, Tryd.f166, SA]
  simp only [w1, w3, TMA, RR, IA, PA, RA0, RA1, RA2, RA3, RA4, RA5, RA6, RA7, RA8, RA9, RA10, Nat.reduceAdd, Nat.reduceMul, Nat.reduceEqDiff, Nat.reduceLeDiff, Nat.reduceLT, Int.reduceToNat, Int.reduceLT, Int.reduceLE, Int.reduceEq, Int.reduceNeg, Int.reduceAdd, Int.reduceSub, Int.reduceMul, reduceIte]
theorem l6Truth_ev (b : Bool) : EE 167 [B b] = some (N (if b = true then 1 else 0)) := by
  refine EE_plain T_l6Truth (by decide) (Nat.le_of_ble_eq_true rfl) rfl ?_
  rw [show opt 167 = [] from rfl]
  simp only [bodyOf, Tryd.f167, SA]
  cases b <;> simp only [TMA, RR, IA, PA, RA0, RA1, RA2, RA3, RA4, RA5, RA6, RA7, RA8, RA9, RA10, Nat.reduceAdd, Nat.reduceMul, Nat.reduceEqDiff, Nat.reduceLeDiff, Nat.reduceLT, Int.reduceToNat, Int.reduceLT, Int.reduceLE, Int.reduceEq, Int.reduceNeg, Int.reduceAdd, Int.reduceSub, Int.reduceMul, reduceIte]
theorem v43 : ((43 : UInt8).toNat : Int) = 43 := rfl
theorem v42 : ((42 : UInt8).toNat : Int) = 42 := rfl
theorem v94 : ((94 : UInt8).toNat : Int) = 94 := rfl
theorem v45 : ((45 : UInt8).toNat : Int) = 45 := rfl
theorem v61 : ((61 : UInt8).toNat : Int) = 61 := rfl
theorem v60 : ((60 : UInt8).toNat : Int) = 60 := rfl
set_option maxHeartbeats 4000000 in
theorem l6Number_ev (s : UInt8) (hs : isSix s = true) (x y : Int) (h1 : 0 ≤ x) (h2 : x ≤ 9) (h3 : 0 ≤ y) (h4 : y ≤ 9) : EE 155 [U s, N x, N y] = some (N (numG s x y)) := by
  have ha := l3Add_ev x y h1 h2 h3 h4
  have t1 := l6Truth_ev (decide (x = y))
  have t2 := l6Truth_ev (decide (x < y))
  have hxy : 0 ≤ x * y ∧ x * y ≤ 81 := ⟨Int.mul_nonneg h1 h3, Int.le_trans (Int.mul_le_mul h2 h4 h3 (by omega)) (by decide)⟩
  have w1 : IntKind.i64.wrap (x * y) = x * y := wrap64 (by omega) (by omega)
  have w2 : (x * y).tmod 10007 = x * y := Int.tmod_eq_of_lt hxy.1 (by omega)
  have w3 : IntKind.i64.wrap (x - y) = x - y := wrap64 (by omega) (by omega)
  have hc : s = 43 ∨ s = 42 ∨ s = 94 ∨ s = 45 ∨ s = 61 ∨ s = 60 := by simpa [isSix] using hs
  refine EE_plain T_l6Number (by decide) (Nat.le_of_ble_eq_true rfl) rfl ?_
  rw [show opt 155 = [] from rfl]
  simp only [bodyOf, Tryd.f155, SA]
  rcases hc with rfl | rfl | rfl | rfl | rfl | rfl
  · rw [show numG 43 x y = x + y from rfl]
    simp only [v43, ha, TMA, RR, IA, PA, RA0, RA1, RA2, RA3, RA4, RA5, RA6, RA7, RA8, RA9, RA10, Nat.reduceAdd, Nat.reduceMul, Nat.reduceEqDiff, Nat.reduceLeDiff, Nat.reduceLT, Int.reduceToNat, Int.reduceLT, Int.reduceLE, Int.reduceEq, Int.reduceNeg, Int.reduceAdd, Int.reduceSub, Int.reduceMul, reduceIte]
  · rw [show numG 42 x y = x * y from rfl]
    simp only [v42, w1, w2, TMA, RR, IA, PA, RA0, RA1, RA2, RA3, RA4, RA5, RA6, RA7, RA8, RA9, RA10, Nat.reduceAdd, Nat.reduceMul, Nat.reduceEqDiff, Nat.reduceLeDiff, Nat.reduceLT, Int.reduceToNat, Int.reduceLT, Int.reduceLE, Int.reduceEq, Int.reduceNeg, Int.reduceAdd, Int.reduceSub, Int.reduceMul, reduceIte]
  · rw [show numG 94 x y = max x y from rfl]
    simp only [v94, TMA, RR, IA, PA, RA0, RA1, RA2, RA3, RA4, RA5, RA6, RA7, RA8, RA9, RA10, Nat.reduceAdd, Nat.reduceMul, Nat.reduceEqDiff, Nat.reduceLeDiff, Nat.reduceLT, Int.reduceToNat, Int.reduceLT, Int.reduceLE, Int.reduceEq, Int.reduceNeg, Int.reduceAdd, Int.reduceSub, Int.reduceMul, reduceIte]
    rw [show (if x < y then y else x) = max x y by split <;> omega]
  · rw [show numG 45 x y = max 0 (x - y) from rfl]
    simp only [v45, w3, TMA, RR, IA, PA, RA0, RA1, RA2, RA3, RA4, RA5, RA6, RA7, RA8, RA9, RA10, Nat.reduceAdd, Nat.reduceMul, Nat.reduceEqDiff, Nat.reduceLeDiff, Nat.reduceLT, Int.reduceToNat, Int.reduceLT, Int.reduceLE, Int.reduceEq, Int.reduceNeg, Int.reduceAdd, Int.reduceSub, Int.reduceMul, reduceIte]
    rw [show (if x - y < 0 then 0 else x - y) = max 0 (x - y) by split <;> omega]
  · rw [show numG 61 x y = if x = y then 1 else 0 from rfl]
    simp only [v61, t1, TMA, RR, IA, PA, RA0, RA1, RA2, RA3, RA4, RA5, RA6, RA7, RA8, RA9, RA10, Nat.reduceAdd, Nat.reduceMul, Nat.reduceEqDiff, Nat.reduceLeDiff, Nat.reduceLT, Int.reduceToNat, Int.reduceLT, Int.reduceLE, Int.reduceEq, Int.reduceNeg, Int.reduceAdd, Int.reduceSub, Int.reduceMul, reduceIte]
    by_cases h : x = y <;> simp [h]
  · rw [show numG 60 x y = if x < y then 1 else 0 from rfl]
    simp only [v60, t2, TMA, RR, IA, PA, RA0, RA1, RA2, RA3, RA4, RA5, RA6, RA7, RA8, RA9, RA10, Nat.reduceAdd, Nat.reduceMul, Nat.reduceEqDiff, Nat.reduceLeDiff, Nat.reduceLT, Int.reduceToNat, Int.reduceLT, Int.reduceLE, Int.reduceEq, Int.reduceNeg, Int.reduceAdd, Int.reduceSub, Int.reduceMul, reduceIte]
    by_cases h : x < y <;> simp [h]
end
end Go.Proofs.YtegbkihgnofkfaaDoor.Ev

/-
Simplifying: the reference's rules: folding of digits; what leaves a term as it is.
-/
namespace Go.Proofs.YtegbkihgnofkfaaDoor.Ev
section
set_option linter.unusedVariables false
set_option linter.unusedSimpArgs false
open Go Go.RowKit
set_option linter.unusedVariables false
set_option linter.unusedSimpArgs false
/-- What one of the reference's rules gives: a term, or nothing that counts. -/
def SpR (r : AV) : Option T → Prop
  | some t => ∃ cs, r = .t [.a cs, B true] ∧ IsN cs t
  | none => ∃ z, r = .t [.a z, B false] ∧ closedL z = true ∧ z.length = 3 ∧ z.all leafOk = true
theorem SpR.no : SpR (.t [.a [.v (.int .u8 0), .v (.int .u8 0), .s true 0 []], .v (.bool false)]) none := ⟨_, rfl, rfl, rfl, rfl⟩
theorem SpR.closed {r : AV} {o : Option T} (h : SpR r o) : Ev.closed r = true := by
  cases o with
  | none => obtain ⟨z, rfl, h1, _⟩ := h; simp only [Ev.closed, closedL, h1, Bool.and_self]
  | some t => obtain ⟨z, rfl, h1⟩ := h; simp only [Ev.closed, closedL, h1.closed, Bool.and_self]
theorem T_l10Const : TT 154 = some (Tryd.f154, bodyOf Tryd.f154) := by kernel_rfl
theorem l10Const_ev (g : Int) (h0 : 0 ≤ g) (hg : g ≤ 1000) : EE 154 [N g] = some (if g < 10 then .t [.a [U 48, U (UInt8.ofNat (48 + g.toNat)), .s true 0 []], B true] else .t [.a [.v (.int .u8 0), .v (.int .u8 0), .s true 0 []], .v (.bool false)]) := by
  have hin := l1In_ev g 0 9
  refine EE_plain T_l10Const (by decide) (Nat.le_of_ble_eq_true rfl) rfl ?_
  rw [show opt 154 = [] from rfl]
  simp only [bodyOf, Tryd.f154, SA]
  by_cases hlt : g < 10
  · have hd : decide (0 ≤ g ∧ g ≤ 9) = true := decide_eq_true ⟨h0, by omega⟩
    rw [hd] at hin
    have w1 : IntKind.i64.wrap (48 + g) = 48 + g := wrap64 (by omega) (by omega)
    have w2 : IntKind.u8.wrap (48 + g) = 48 + g := wrap8 (by omega) (by omega)
    have e : ((UInt8.ofNat (48 + g.toNat)).toNat : Int) = 48 + g := by
      rw [UInt8.toNat_ofNat']
      have : (48 + g.toNat) % 256 = 48 + g.toNat := Nat.mod_eq_of_lt (by omega)
      rw [this]
      omega
    have eU : U (UInt8.ofNat (48 + g.toNat)) = .v (.int .u8 (48 + g)) := by
      show AV.v (.int .u8 ((UInt8.ofNat (48 + g.toNat)).toNat : Int)) = _
      rw [e]
    rw [if_pos hlt, eU]
    simp only [hin, w1, w2, TMA, RR, IA, PA, RA0, RA1, RA2, RA3, RA4, RA5, RA6, RA7, RA8, RA9, RA10, Nat.reduceAdd, Nat.reduceMul, Nat.reduceEqDiff, Nat.reduceLeDiff, Nat.reduceLT, Int.reduceToNat, Int.reduceLT, Int.reduceLE, Int.reduceEq, Int.reduceNeg, Int.reduceAdd, Int.reduceSub, Int.reduceMul, reduceIte]
    rfl
  · have hd : decide (0 ≤ g ∧ g ≤ 9) = false := decide_eq_false (by omega)
    rw [hd] at hin
    rw [if_neg hlt]
    simp only [hin, TMA, RR, IA, PA, RA0, RA1, RA2, RA3, RA4, RA5, RA6, RA7, RA8, RA9, RA10, Nat.reduceAdd, Nat.reduceMul, Nat.reduceEqDiff, Nat.reduceLeDiff, Nat.reduceLT, Int.reduceToNat, Int.reduceLT, Int.reduceLE, Int.reduceEq, Int.reduceNeg, Int.reduceAdd, Int.reduceSub, Int.reduceMul, reduceIte]
theorem T_l10Fold : TT 140 = some (Tryd.f140, bodyOf Tryd.f140) := by kernel_rfl
theorem fold_none {cs : List AV} {t : T} (h : IsN cs t) (hw : WF t) (hn : ∀ s x y, t ≠ .two s x y) : EE 140 [.a cs] = some (.t [.a [.v (.int .u8 0), .v (.int .u8 0), .s true 0 []], .v (.bool false)]) := by
  have hcl : closedL [.a cs] = true := by simp only [closedL, closed, h.closed, Bool.and_self]
  refine EE_plain T_l10Fold (by decide) (Nat.le_of_ble_eq_true rfl) hcl ?_
  rw [show opt 140 = [] from rfl]
  simp only [bodyOf, Tryd.f140, SA]
  cases h with
  | dig ex c => simp only [q48, TMA, RR, IA, PA, RA0, RA1, RA2, RA3, RA4, RA5, RA6, RA7, RA8, RA9, RA10, Nat.reduceAdd, Nat.reduceMul, Nat.reduceEqDiff, Nat.reduceLeDiff, Nat.reduceLT, Int.reduceToNat, Int.reduceLT, Int.reduceLE, Int.reduceEq, Int.reduceNeg, Int.reduceAdd, Int.reduceSub, Int.reduceMul, reduceIte]
  | var ex c => simp only [q48, TMA, RR, IA, PA, RA0, RA1, RA2, RA3, RA4, RA5, RA6, RA7, RA8, RA9, RA10, Nat.reduceAdd, Nat.reduceMul, Nat.reduceEqDiff, Nat.reduceLeDiff, Nat.reduceLT, Int.reduceToNat, Int.reduceLT, Int.reduceLE, Int.reduceEq, Int.reduceNeg, Int.reduceAdd, Int.reduceSub, Int.reduceMul, reduceIte]
  | one ex s h => simp only [h.len, h.tk, h.closed, h.leaf, TMA, RR, IA, PA, RA0, RA1, RA2, RA3, RA4, RA5, RA6, RA7, RA8, RA9, RA10, Nat.reduceAdd, Nat.reduceMul, Nat.reduceEqDiff, Nat.reduceLeDiff, Nat.reduceLT, Int.reduceToNat, Int.reduceLT, Int.reduceLE, Int.reduceEq, Int.reduceNeg, Int.reduceAdd, Int.reduceSub, Int.reduceMul, reduceIte]
  | two ex s h k => exact absurd rfl (hn _ _ _)
  | loop ex s v h k =>
    have hw0 : ¬ ((v.toNat : Int) = 0) := fun e => lv_0 hw.2.1 (UInt8.toNat_inj.1 (by simpa using e))
    simp only [hw0, h.len2 k, h.tk2, h.dr2, h.closed, k.closed, h.leaf, k.leaf, TMA, RR, IA, PA, RA0, RA1, RA2, RA3, RA4, RA5, RA6, RA7, RA8, RA9, RA10, Nat.reduceAdd, Nat.reduceMul, Nat.reduceEqDiff, Nat.reduceLeDiff, Nat.reduceLT, Int.reduceToNat, Int.reduceLT, Int.reduceLE, Int.reduceEq, Int.reduceNeg, Int.reduceAdd, Int.reduceSub, Int.reduceMul, reduceIte]
theorem two_name : ((0 : UInt8).toNat : Int) = 0 := rfl
theorem pure_spR {σ : Sto} {r : AV} {o : Option T} (h : SpR r o) : pureK σ r = some (r, σ) := by simp only [pureK, h.closed, if_true]
/-- Two digits. -/
theorem fold_digits (ex e1 e2 : Bool) (s c d : UInt8) (h64 : ¬ s = 64) (hs : isTwo s = true) (hc : isDig c = true) (hd : isDig d = true) : ∃ r, EE 140 [.a [U s, U 0, .s ex 2 [U 48, U c, .s e1 0 [], U 48, U d, .s e2 0 []]]] = some r ∧ SpR r ((foldM s (.dig c) (.dig d)).map T.dig) := by
  obtain ⟨x1, x2⟩ := dig_val hc
  obtain ⟨y1, y2⟩ := dig_val hd
  have w0 : IntKind.i64.wrap (c.toNat : Int) = (c.toNat : Int) := wrap64 (by omega) (by omega)
  have w1 : IntKind.i64.wrap (d.toNat : Int) = (d.toNat : Int) := wrap64 (by omega) (by omega)
  have w3 : IntKind.i64.wrap ((c.toNat : Int) - 48) = (c.toNat : Int) - 48 := wrap64 (by omega) (by omega)
  have w4 : IntKind.i64.wrap ((d.toNat : Int) - 48) = (d.toNat : Int) - 48 := wrap64 (by omega) (by omega)
  have hnum := l6Number_ev s (six_of hs h64) _ _ x1 x2 y1 y2
  have hnn := numG_nn s _ _ x1 y1
  have hle : numG s ((c.toNat : Int) - 48) ((d.toNat : Int) - 48) ≤ 1000 := by
    generalize (c.toNat : Int) - 48 = X at *
    generalize (d.toNat : Int) - 48 = Y at *
    have hxy : X * Y ≤ 81 := Int.le_trans (Int.mul_le_mul x2 y2 y1 (by omega)) (by decide)
    unfold numG
    repeat' split
    all_goals omega
  have hco := l10Const_ev _ hnn hle
  have n64 : ¬ ((s.toNat : Int) = 64) := fun e => h64 (UInt8.toNat_inj.1 (by simpa using (Int.ofNat_inj.1 (show ((s.toNat : Nat) : Int) = ((64 : Nat) : Int) from e))))
  have hm : (foldM s (.dig c) (.dig d)).map T.dig = if numG s ((c.toNat : Int) - 48) ((d.toNat : Int) - 48) < 10 then some (.dig (UInt8.ofNat (48 + (numG s ((c.toNat : Int) - 48) ((d.toNat : Int) - 48)).toNat))) else none := by
    rw [foldM, if_neg h64]
    split <;> rfl
  rw [hm]
  clear hm
  have hrun : ∀ y, (evC II EE (withOpt [] pf) MX (strip (bodyOf Tryd.f140)) (St.init [.a [U s, U 0, .s ex 2 [U 48, U c, .s e1 0 [], U 48, U d, .s e2 0 []]]])).bind (resK II Tryd.f140.results.toList) = some y → EE 140 [.a [U s, U 0, .s ex 2 [U 48, U c, .s e1 0 [], U 48, U d, .s e2 0 []]]] = some y := fun y h => EE_plain T_l10Fold (by decide) (Nat.le_of_ble_eq_true rfl) rfl h
  generalize numG s ((c.toNat : Int) - 48) ((d.toNat : Int) - 48) = g at *
  by_cases hlt : g < 10
  · rw [if_pos hlt] at hco ⊢
    have hsp : SpR (.t [.a [U 48, U (UInt8.ofNat (48 + g.toNat)), .s true 0 []], B true]) (some (.dig (UInt8.ofNat (48 + g.toNat)))) := ⟨_, rfl, .dig true _⟩
    have hpk := fun σ => pure_spR (σ := σ) hsp
    generalize UInt8.ofNat (48 + g.toNat) = dd at *
    refine ⟨_, hrun _ ?_, hsp⟩
    simp only [bodyOf, Tryd.f140, SA]
    simp only [q4848, u48, two_name, n64, w0, w1, w3, w4, hnum, hco, hpk, TMA, RR, IA, PA, RA0, RA1, RA2, RA3, RA4, RA5, RA6, RA7, RA8, RA9, RA10, Nat.reduceAdd, Nat.reduceMul, Nat.reduceEqDiff, Nat.reduceLeDiff, Nat.reduceLT, Int.reduceToNat, Int.reduceLT, Int.reduceLE, Int.reduceEq, Int.reduceNeg, Int.reduceAdd, Int.reduceSub, Int.reduceMul, reduceIte]
  · rw [if_neg hlt] at hco ⊢
    have hpk := fun σ => pure_spR (σ := σ) SpR.no
    refine ⟨_, hrun _ ?_, SpR.no⟩
    simp only [bodyOf, Tryd.f140, SA]
    simp only [q4848, u48, two_name, n64, w0, w1, w3, w4, hnum, hco, hpk, TMA, RR, IA, PA, RA0, RA1, RA2, RA3, RA4, RA5, RA6, RA7, RA8, RA9, RA10, Nat.reduceAdd, Nat.reduceMul, Nat.reduceEqDiff, Nat.reduceLeDiff, Nat.reduceLT, Int.reduceToNat, Int.reduceLT, Int.reduceLE, Int.reduceEq, Int.reduceNeg, Int.reduceAdd, Int.reduceSub, Int.reduceMul, reduceIte]
end
end Go.Proofs.YtegbkihgnofkfaaDoor.Ev

/-
Simplifying: the reference's rules: folding, for any term.
-/
namespace Go.Proofs.YtegbkihgnofkfaaDoor.Ev
section
set_option linter.unusedVariables false
set_option linter.unusedSimpArgs false
open Go Go.RowKit
set_option linter.unusedVariables false
set_option linter.unusedSimpArgs false
theorem IsN.sub {cx cy : List AV} {x y : T} (h : IsN cx x) (k : IsN cy y) : ∃ e1 n1 l1 e2 n2 l2, cx ++ cy = [U (sgN x), U (nmN x), .s e1 n1 l1, U (sgN y), U (nmN y), .s e2 n2 l2] := by
  obtain ⟨e1, n1, l1, rfl⟩ := h.form
  obtain ⟨e2, n2, l2, rfl⟩ := k.form
  exact ⟨_, _, _, _, _, _, rfl⟩
set_option maxHeartbeats 4000000 in
theorem fold_two (ex : Bool) (s : UInt8) {cx cy : List AV} {x y : T} (h : IsN cx x) (k : IsN cy y) (hw : WF (.two s x y)) : ∃ r, EE 140 [.a [U s, U 0, .s ex 2 (cx ++ cy)]] = some r ∧ SpR r ((foldM s x y).map T.dig) := by
  have hcl : closedL [.a [U s, U 0, .s ex 2 (cx ++ cy)]] = true := by simp only [closedL, closed, (IsN.two ex s h k).closed, closedL_append, h.closed, k.closed, Bool.and_self]
  by_cases hd : ¬ s = 64 ∧ isDigT x = true ∧ isDigT y = true
  · obtain ⟨h64, dx, dy⟩ := hd
    cases h with
    | dig e1 c => cases k with
      | dig e2 d => exact fold_digits ex e1 e2 s c d h64 hw.1 hw.2.1 hw.2.2
      | _ => simp [isDigT] at dy
    | _ => simp [isDigT] at dx
  · have hm : foldM s x y = none := by
      unfold foldM
      split
      · rw [if_pos (Classical.byContradiction fun h64 => hd ⟨h64, rfl, rfl⟩)]
      · rfl
    rw [hm]
    refine ⟨_, EE_plain T_l10Fold (by decide) (Nat.le_of_ble_eq_true rfl) hcl ?_, SpR.no⟩
    rw [show opt 140 = [] from rfl]
    simp only [bodyOf, Tryd.f140, SA]
    obtain ⟨e1, n1, l1, e2, n2, l2, hf⟩ := h.sub k
    rw [hf]
    have v64 : ((64 : UInt8).toNat : Int) = 64 := rfl
    by_cases h64 : s = 64
    · subst h64
      simp only [two_name, v64, TMA, RR, IA, PA, RA0, RA1, RA2, RA3, RA4, RA5, RA6, RA7, RA8, RA9, RA10, Nat.reduceAdd, Nat.reduceMul, Nat.reduceEqDiff, Nat.reduceLeDiff, Nat.reduceLT, Int.reduceToNat, Int.reduceLT, Int.reduceLE, Int.reduceEq, Int.reduceNeg, Int.reduceAdd, Int.reduceSub, Int.reduceMul, reduceIte]
    · have n64 : ¬ ((s.toNat : Int) = 64) := fun e => h64 (UInt8.toNat_inj.1 (by simpa using (Int.ofNat_inj.1 (show ((s.toNat : Nat) : Int) = ((64 : Nat) : Int) from e))))
      cases dx : isDigT x with
      | false =>
        have n48 := sgN_48 hw.2.1 dx
        simp only [two_name, n64, n48, TMA, RR, IA, PA, RA0, RA1, RA2, RA3, RA4, RA5, RA6, RA7, RA8, RA9, RA10, Nat.reduceAdd, Nat.reduceMul, Nat.reduceEqDiff, Nat.reduceLeDiff, Nat.reduceLT, Int.reduceToNat, Int.reduceLT, Int.reduceLE, Int.reduceEq, Int.reduceNeg, Int.reduceAdd, Int.reduceSub, Int.reduceMul, reduceIte]
      | true =>
        cases dy : isDigT y with
        | false =>
          have n48 := sgN_48 hw.2.2 dy
          obtain ⟨c, rfl⟩ : ∃ c, x = .dig c := by cases x <;> first | exact ⟨_, rfl⟩ | (simp [isDigT] at dx)
          have s1 : sgN (.dig c) = 48 := rfl
          have s2 : nmN (.dig c) = c := rfl
          simp only [two_name, n64, n48, s1, s2, q4848, u48, TMA, RR, IA, PA, RA0, RA1, RA2, RA3, RA4, RA5, RA6, RA7, RA8, RA9, RA10, Nat.reduceAdd, Nat.reduceMul, Nat.reduceEqDiff, Nat.reduceLeDiff, Nat.reduceLT, Int.reduceToNat, Int.reduceLT, Int.reduceLE, Int.reduceEq, Int.reduceNeg, Int.reduceAdd, Int.reduceSub, Int.reduceMul, reduceIte]
        | true => exact absurd ⟨h64, dx, dy⟩ hd
theorem fold_ev {cs : List AV} {t : T} (h : IsN cs t) (hw : WF t) : ∃ r, EE 140 [.a cs] = some r ∧ SpR r (match t with | .two s x y => (foldM s x y).map T.dig | _ => none) := by
  cases h with
  | two ex s h k => exact fold_two ex s h k hw
  | dig ex c => exact ⟨_, fold_none (.dig ex c) hw (by intros; simp), SpR.no⟩
  | var ex c => exact ⟨_, fold_none (.var ex c) hw (by intros; simp), SpR.no⟩
  | one ex s h => exact ⟨_, fold_none (.one ex s h) hw (by intros; simp), SpR.no⟩
  | loop ex s v h k => exact ⟨_, fold_none (.loop ex s v h k) hw (by intros; simp), SpR.no⟩
end
end Go.Proofs.YtegbkihgnofkfaaDoor.Ev
