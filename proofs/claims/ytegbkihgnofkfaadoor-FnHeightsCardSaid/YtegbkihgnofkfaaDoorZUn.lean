/-
Texts Un to Un of the work.
-/
import Derived.Test.YtegbkihgnofkfaaDoorZUm
/-
Code: what the reference says of code.
-/
namespace Go.Proofs.YtegbkihgnofkfaaDoor.Ev
section
set_option linter.unusedVariables false
set_option linter.unusedSimpArgs false
open Go Go.RowKit
set_option linter.unusedVariables false
set_option linter.unusedSimpArgs false
theorem adopt4 {σ : Sto} {key : Nat} {x y : AV} {n m E sz : Nat} {cs ds : List AV} (hx : closed x = true) (hy : closed y = true) (hc : closedL cs = true) (hd : closedL ds = true) :
    adopt σ key (.t [x, .o E sz n cs, .o E sz m ds, y]) = some (.t [x, .w (key + 1) 0 n, .w (key + 1 + 1) 0 m, y], upd (upd σ (key + 1) (some (.row E sz n cs))) (key + 1 + 1) (some (.row E sz m ds))) := by
  simp only [adopt]
  rw [if_neg (by simp [closedL, closed])]
  simp only [List.length_cons, List.length_nil, adoptL, adopt1_closed hx, adopt1_closed hy, adopt1_o hc, adopt1_o hd, Option.bind_some, Option.map_some]
  rfl
theorem T_specTermOf : TT 26 = some (Tryd.f26, bodyOf Tryd.f26) := by kernel_rfl
theorem adopt_b4 (σ : Sto) (key : Nat) (t : T) (hs ls : List Nat) : adopt σ key (.t [.a (encN t), .o 3 1 hs.length (nats hs), .o 3 1 ls.length (nats ls), B true]) = some (.t [.a (encN t), .w (key + 1) 0 hs.length, .w (key + 1 + 1) 0 ls.length, B true], upd (upd σ (key + 1) (some (.row 3 1 hs.length (nats hs)))) (key + 1 + 1) (some (.row 3 1 ls.length (nats ls)))) :=
  adopt4 (by simp only [closed, encN_closed]) rfl (nats_closed _) (nats_closed _)
theorem adopt_z4 (σ : Sto) (key : Nat) : adopt σ key (.t [.a zeroN, .s true 0 [], .s true 0 [], B false]) = some (.t [.a zeroN, .s true 0 [], .s true 0 [], B false], σ) := rfl
theorem zeroN_len : zeroN.length = 3 := rfl
theorem zeroN_leaf : zeroN.all leafOk = true := rfl
theorem specB_wf {code : List UInt8} {t : T} {hs ls : List Nat} (h : specB code = some (t, hs, ls)) : WF t ∧ (textT t).length ≤ 80 := by
  obtain ⟨_, hw, _, _, hr⟩ := spec_impl h
  exact ⟨hw, (rdT_wf hr).2.2⟩
theorem specTermOf_ev (code : List UInt8) (hl : code.length < 50000000) : EE 26 [S code] = some (match specB code with | some (t, _, _) => .t [S (textT t), B true] | none => .t [S [], B false]) := by
  refine EE_plain T_specTermOf (by decide) (Nat.le_of_ble_eq_true rfl) rfl ?_
  rw [show opt 26 = [] from rfl]
  simp only [bodyOf, Tryd.f26, SA]
  have h := l7Build_ev code hl
  cases hs : specB code with
  | none =>
    rw [hs] at h
    simp only [buildR] at h
    simp only [h, adopt_z4, zeroN_len, zeroN_leaf, RR, IA, PA, RA0, RA1, RA2, RA3, RA4, RA5, RA6, RA7, RA8, RA9, RA10, Nat.reduceAdd, Nat.reduceMul, Nat.reduceEqDiff, Nat.reduceLeDiff, Nat.reduceLT, Int.reduceToNat, Int.reduceLT, Int.reduceLE, Int.reduceEq, Int.reduceNeg, Int.reduceAdd, Int.reduceSub, Int.reduceMul, reduceIte]
  | some w =>
    obtain ⟨t, hh, lv⟩ := w
    rw [hs] at h
    simp only [buildR] at h
    obtain ⟨hw, h80⟩ := specB_wf hs
    have htx := l5Text_ev t hw (by omega)
    simp only [h, htx, adopt_b4, TMA, RR, IA, PA, RA0, RA1, RA2, RA3, RA4, RA5, RA6, RA7, RA8, RA9, RA10, Nat.reduceAdd, Nat.reduceMul, Nat.reduceEqDiff, Nat.reduceLeDiff, Nat.reduceLT, Int.reduceToNat, Int.reduceLT, Int.reduceLE, Int.reduceEq, Int.reduceNeg, Int.reduceAdd, Int.reduceSub, Int.reduceMul, reduceIte]
theorem T_specCodeValid : TT 27 = some (Tryd.f27, bodyOf Tryd.f27) := by kernel_rfl
theorem specCodeValid_ev (code : List UInt8) (hl : code.length < 50000000) : EE 27 [S code] = some (B (specB code).isSome) := by
  refine EE_plain T_specCodeValid (by decide) (Nat.le_of_ble_eq_true rfl) rfl ?_
  rw [show opt 27 = [] from rfl]
  simp only [bodyOf, Tryd.f27, SA]
  have h := specTermOf_ev code hl
  cases hs : specB code with
  | none =>
    rw [hs] at h
    simp only at h
    simp only [h, adopt_two (show closed (S []) = true from rfl) (show closed (B false) = true from rfl), RR, IA, PA, RA0, RA1, RA2, RA3, RA4, RA5, RA6, RA7, RA8, RA9, RA10, Nat.reduceAdd, Nat.reduceMul, Nat.reduceEqDiff, Nat.reduceLeDiff, Nat.reduceLT, Int.reduceToNat, Int.reduceLT, Int.reduceLE, Int.reduceEq, Int.reduceNeg, Int.reduceAdd, Int.reduceSub, Int.reduceMul, reduceIte]
    rfl
  | some w =>
    obtain ⟨t, hh, lv⟩ := w
    rw [hs] at h
    simp only at h
    simp only [h, adopt_two (show closed (S (textT t)) = true from rfl) (show closed (B true) = true from rfl), RR, IA, PA, RA0, RA1, RA2, RA3, RA4, RA5, RA6, RA7, RA8, RA9, RA10, Nat.reduceAdd, Nat.reduceMul, Nat.reduceEqDiff, Nat.reduceLeDiff, Nat.reduceLT, Int.reduceToNat, Int.reduceLT, Int.reduceLE, Int.reduceEq, Int.reduceNeg, Int.reduceAdd, Int.reduceSub, Int.reduceMul, reduceIte]
    rfl
theorem T_specHeightsOf : TT 21 = some (Tryd.f21, bodyOf Tryd.f21) := by kernel_rfl
theorem specHeightsOf_ev (code : List UInt8) (hl : code.length < 50000000) : EE 21 [S code] = some (match specB code with | some (_, hs, _) => .t [.o 3 1 hs.length (nats hs), B true] | none => .t [.s true 0 [], B false]) := by
  refine EE_plain T_specHeightsOf (by decide) (Nat.le_of_ble_eq_true rfl) rfl ?_
  rw [show opt 21 = [] from rfl]
  simp only [bodyOf, Tryd.f21, SA]
  have h := l7Build_ev code hl
  cases hs : specB code with
  | none =>
    rw [hs] at h
    simp only [buildR] at h
    simp only [h, adopt_z4, zeroN_len, zeroN_leaf, RR, IA, PA, RA0, RA1, RA2, RA3, RA4, RA5, RA6, RA7, RA8, RA9, RA10, Nat.reduceAdd, Nat.reduceMul, Nat.reduceEqDiff, Nat.reduceLeDiff, Nat.reduceLT, Int.reduceToNat, Int.reduceLT, Int.reduceLE, Int.reduceEq, Int.reduceNeg, Int.reduceAdd, Int.reduceSub, Int.reduceMul, reduceIte]
  | some w =>
    obtain ⟨t, hh, lv⟩ := w
    rw [hs] at h
    simp only [buildR] at h
    simp only [h, adopt_b4, TMA, RR, IA, PA, RA0, RA1, RA2, RA3, RA4, RA5, RA6, RA7, RA8, RA9, RA10, Nat.reduceAdd, Nat.reduceMul, Nat.reduceEqDiff, Nat.reduceLeDiff, Nat.reduceLT, Int.reduceToNat, Int.reduceLT, Int.reduceLE, Int.reduceEq, Int.reduceNeg, Int.reduceAdd, Int.reduceSub, Int.reduceMul, reduceIte]
    exact give_row2 (by simp [upd]) (nats_closed _) rfl
theorem T_specLevelsAt : TT 22 = some (Tryd.f22, bodyOf Tryd.f22) := by kernel_rfl
theorem specLevelsAt_ev (code : List UInt8) (hl : code.length < 50000000) : EE 22 [S code] = some (match specB code with | some (_, _, ls) => .t [.o 3 1 ls.length (nats ls), B true] | none => .t [.s true 0 [], B false]) := by
  refine EE_plain T_specLevelsAt (by decide) (Nat.le_of_ble_eq_true rfl) rfl ?_
  rw [show opt 22 = [] from rfl]
  simp only [bodyOf, Tryd.f22, SA]
  have h := l7Build_ev code hl
  cases hs : specB code with
  | none =>
    rw [hs] at h
    simp only [buildR] at h
    simp only [h, adopt_z4, zeroN_len, zeroN_leaf, RR, IA, PA, RA0, RA1, RA2, RA3, RA4, RA5, RA6, RA7, RA8, RA9, RA10, Nat.reduceAdd, Nat.reduceMul, Nat.reduceEqDiff, Nat.reduceLeDiff, Nat.reduceLT, Int.reduceToNat, Int.reduceLT, Int.reduceLE, Int.reduceEq, Int.reduceNeg, Int.reduceAdd, Int.reduceSub, Int.reduceMul, reduceIte]
  | some w =>
    obtain ⟨t, hh, lv⟩ := w
    rw [hs] at h
    simp only [buildR] at h
    simp only [h, adopt_b4, TMA, RR, IA, PA, RA0, RA1, RA2, RA3, RA4, RA5, RA6, RA7, RA8, RA9, RA10, Nat.reduceAdd, Nat.reduceMul, Nat.reduceEqDiff, Nat.reduceLeDiff, Nat.reduceLT, Int.reduceToNat, Int.reduceLT, Int.reduceLE, Int.reduceEq, Int.reduceNeg, Int.reduceAdd, Int.reduceSub, Int.reduceMul, reduceIte]
    exact give_row2 (by simp [upd]) (nats_closed _) rfl
theorem T_specInstructionsOf : TT 30 = some (Tryd.f30, bodyOf Tryd.f30) := by kernel_rfl
theorem specInstructionsOf_ev (code : List UInt8) (hl : code.length < 50000000) : EE 30 [S code] = some (if (specB code).isSome = true then .o 9 1 (cutL 32 code).length (strs (cutL 32 code)) else .s true 0 []) := by
  refine EE_plain T_specInstructionsOf (by decide) (Nat.le_of_ble_eq_true rfl) rfl ?_
  rw [show opt 30 = [] from rfl]
  simp only [bodyOf, Tryd.f30, SA]
  have h := specCodeValid_ev code hl
  have hcut := l13Cut_ev code 32 (by omega)
  have hu : U 32 = .v (.int .u8 32) := rfl
  rw [hu] at hcut
  cases hs : (specB code).isSome
  · rw [hs] at h
    simp only [h, RR, IA, PA, RA0, RA1, RA2, RA3, RA4, RA5, RA6, RA7, RA8, RA9, RA10, Nat.reduceAdd, Nat.reduceMul, Nat.reduceEqDiff, Nat.reduceLeDiff, Nat.reduceLT, Int.reduceToNat, Int.reduceLT, Int.reduceLE, Int.reduceEq, Int.reduceNeg, Int.reduceAdd, Int.reduceSub, Int.reduceMul, reduceIte]
  · rw [hs] at h
    simp only [h, hcut, strs_closed, RR, IA, PA, RA0, RA1, RA2, RA3, RA4, RA5, RA6, RA7, RA8, RA9, RA10, Nat.reduceAdd, Nat.reduceMul, Nat.reduceEqDiff, Nat.reduceLeDiff, Nat.reduceLT, Int.reduceToNat, Int.reduceLT, Int.reduceLE, Int.reduceEq, Int.reduceNeg, Int.reduceAdd, Int.reduceSub, Int.reduceMul, reduceIte]
    exact give_row (by simp [upd]) (strs_closed _)
end
end Go.Proofs.YtegbkihgnofkfaaDoor.Ev
