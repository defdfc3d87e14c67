/-
Texts Dk to Dk of the work.
-/
import Derived.Test.YtegbkihgnofkfaaDoorZTn
/-
Sizes of terms; is a text a term.
-/
namespace Go.Proofs.YtegbkihgnofkfaaDoor.Ev
section
set_option linter.unusedVariables false
set_option linter.unusedSimpArgs false
open Go Go.RowKit
set_option linter.unusedVariables false
set_option linter.unusedSimpArgs false
theorem IsP.pD {a : AV} {t : T} (h : IsP a t) : ∃ ps, a = .p ps ∧ closedL ps = true := by
  have hc := h.closed
  cases h <;> exact ⟨_, rfl, hc⟩
theorem adopt_encD (σ : Sto) (key : Nat) (x : T) : adopt σ key (encP x) = some (encP x, σ) := by cases x <;> first | rfl | (simp only [adopt, encP]; exact adopt1_closed (by simp only [closed, closedL, encP_closed, Bool.and_self]))
theorem adopt_nilD (σ : Sto) (key : Nat) : adopt σ key nilP = some (nilP, σ) := rfl
theorem rd_lenD {t : List UInt8} {x : T} (h : rdT t = some x) : (textT x).length ≤ 80 := by
  have h1 := rdT_text h
  have h2 := (rdT_wf h).2.2
  rw [h1] at h2
  exact h2
/-- How many terms there are in a term. -/
def sizeT : T → Nat
  | .dig _ => 1
  | .var _ => 1
  | .one _ x => sizeT x + 1
  | .two _ x y => sizeT x + sizeT y + 1
  | .loop _ _ x y => sizeT x + sizeT y + 1
theorem size_pos (t : T) : 0 < sizeT t := by cases t <;> simp [sizeT]
theorem size_len : ∀ t, sizeT t ≤ (textT t).length
  | .dig c => by simp [sizeT, textT]
  | .var c => by simp [sizeT, textT]
  | .one s x => by have := size_len x; simp only [sizeT, textT, List.length_cons]; omega
  | .two s x y => by have := size_len x; have := size_len y; simp only [sizeT, textT, List.length_cons, List.length_append, List.length_nil]; omega
  | .loop s w x y => by have := size_len x; have := size_len y; simp only [sizeT, textT, List.length_cons, List.length_append, List.length_nil]; omega
theorem T_size : TT 58 = some (Tryd.f58, bodyOf Tryd.f58) := by kernel_rfl
theorem T_sizeOf : TT 15 = some (Tryd.f15, bodyOf Tryd.f15) := by kernel_rfl
set_option maxHeartbeats 4000000 in
theorem size_ev {a : AV} {t : T} (h : IsP a t) : (textT t).length ≤ 1000000 → EE 58 [a] = some (N (sizeT t)) := by
  induction h with
  | dig ex c =>
    intro _
    refine EE_few 3 T_size (by decide) (Nat.le_of_ble_eq_true rfl) rfl ?_
    rw [show opt 58 = [] from rfl]
    simp only [bodyOf, Tryd.f58, SA]
    simp only [sizeT, rounds_rd, TMA, RR, IA, PA, RA0, RA1, RA2, RA3, RA4, RA5, RA6, RA7, RA8, RA9, RA10, Nat.reduceAdd, Nat.reduceMul, Nat.reduceEqDiff, Nat.reduceLeDiff, Nat.reduceLT, Int.reduceToNat, Int.reduceLT, Int.reduceLE, Int.reduceEq, Int.reduceNeg, Int.reduceAdd, Int.reduceSub, Int.reduceMul, reduceIte]
  | var ex c =>
    intro _
    refine EE_few 3 T_size (by decide) (Nat.le_of_ble_eq_true rfl) rfl ?_
    rw [show opt 58 = [] from rfl]
    simp only [bodyOf, Tryd.f58, SA]
    simp only [sizeT, rounds_rd, TMA, RR, IA, PA, RA0, RA1, RA2, RA3, RA4, RA5, RA6, RA7, RA8, RA9, RA10, Nat.reduceAdd, Nat.reduceMul, Nat.reduceEqDiff, Nat.reduceLeDiff, Nat.reduceLT, Int.reduceToNat, Int.reduceLT, Int.reduceLE, Int.reduceEq, Int.reduceNeg, Int.reduceAdd, Int.reduceSub, Int.reduceMul, reduceIte]
  | one ex s h ih =>
    rename_i a x
    intro hb
    simp only [textT, List.length_cons] at hb
    have hx := ih (by omega)
    have hc := h.closed
    have hs := size_len x
    have w1 : IntKind.i64.wrap (1 + (sizeT x : Int)) = ((sizeT x + 1 : Nat) : Int) := by rw [wrap64 (by omega) (by omega)]; omega
    obtain ⟨ps, rfl, hpc⟩ := h.pD
    refine EE_few 3 T_size (by decide) (Nat.le_of_ble_eq_true rfl) (by simp only [closedL, closed, hpc, Bool.and_self]) ?_
    rw [show opt 58 = [] from rfl]
    simp only [bodyOf, Tryd.f58, SA]
    simp only [hx, hpc, w1, sizeT, rounds_rd, TMA, RR, IA, PA, RA0, RA1, RA2, RA3, RA4, RA5, RA6, RA7, RA8, RA9, RA10, Nat.reduceAdd, Nat.reduceMul, Nat.reduceEqDiff, Nat.reduceLeDiff, Nat.reduceLT, Int.reduceToNat, Int.reduceLT, Int.reduceLE, Int.reduceEq, Int.reduceNeg, Int.reduceAdd, Int.reduceSub, Int.reduceMul, reduceIte]
  | two ex s h k ih ik =>
    rename_i a b x y
    intro hb
    simp only [textT, List.length_cons, List.length_append, List.length_nil] at hb
    have hx := ih (by omega)
    have hy := ik (by omega)
    have hs := size_len x
    have hs2 := size_len y
    have w1 : IntKind.i64.wrap (1 + (sizeT x : Int)) = ((sizeT x + 1 : Nat) : Int) := by rw [wrap64 (by omega) (by omega)]; omega
    have w2 : IntKind.i64.wrap (((sizeT x + 1 : Nat) : Int) + (sizeT y : Int)) = ((sizeT x + sizeT y + 1 : Nat) : Int) := by rw [wrap64 (by omega) (by omega)]; omega
    obtain ⟨ps, rfl, hpc⟩ := h.pD
    obtain ⟨qs, rfl, hqc⟩ := k.pD
    refine EE_few 3 T_size (by decide) (Nat.le_of_ble_eq_true rfl) (by simp only [closedL, closed, hpc, hqc, Bool.and_self]) ?_
    rw [show opt 58 = [] from rfl]
    simp only [bodyOf, Tryd.f58, SA]
    simp only [hx, hy, hpc, hqc, w1, w2, sizeT, rounds_rd, TMA, RR, IA, PA, RA0, RA1, RA2, RA3, RA4, RA5, RA6, RA7, RA8, RA9, RA10, Nat.reduceAdd, Nat.reduceMul, Nat.reduceEqDiff, Nat.reduceLeDiff, Nat.reduceLT, Int.reduceToNat, Int.reduceLT, Int.reduceLE, Int.reduceEq, Int.reduceNeg, Int.reduceAdd, Int.reduceSub, Int.reduceMul, reduceIte]
  | loop ex s v h k ih ik =>
    rename_i a b x y
    intro hb
    simp only [textT, List.length_cons, List.length_append, List.length_nil] at hb
    have hx := ih (by omega)
    have hy := ik (by omega)
    have hs := size_len x
    have hs2 := size_len y
    have w1 : IntKind.i64.wrap (1 + (sizeT x : Int)) = ((sizeT x + 1 : Nat) : Int) := by rw [wrap64 (by omega) (by omega)]; omega
    have w2 : IntKind.i64.wrap (((sizeT x + 1 : Nat) : Int) + (sizeT y : Int)) = ((sizeT x + sizeT y + 1 : Nat) : Int) := by rw [wrap64 (by omega) (by omega)]; omega
    obtain ⟨ps, rfl, hpc⟩ := h.pD
    obtain ⟨qs, rfl, hqc⟩ := k.pD
    refine EE_few 3 T_size (by decide) (Nat.le_of_ble_eq_true rfl) (by simp only [closedL, closed, hpc, hqc, Bool.and_self]) ?_
    rw [show opt 58 = [] from rfl]
    simp only [bodyOf, Tryd.f58, SA]
    simp only [hx, hy, hpc, hqc, w1, w2, sizeT, rounds_rd, TMA, RR, IA, PA, RA0, RA1, RA2, RA3, RA4, RA5, RA6, RA7, RA8, RA9, RA10, Nat.reduceAdd, Nat.reduceMul, Nat.reduceEqDiff, Nat.reduceLeDiff, Nat.reduceLT, Int.reduceToNat, Int.reduceLT, Int.reduceLE, Int.reduceEq, Int.reduceNeg, Int.reduceAdd, Int.reduceSub, Int.reduceMul, reduceIte]
def sizeX (t : List UInt8) : Int := match rdT t with
  | some x => (sizeT x : Int)
  | none => -1
theorem sizeOf_ev (t : List UInt8) (hl : t.length < 4611686018427387904) : EE 15 [S t] = some (N (sizeX t)) := by
  have h := termOf_ev t hl
  refine EE_plain T_sizeOf (by decide) (Nat.le_of_ble_eq_true rfl) rfl ?_
  rw [show opt 15 = [] from rfl]
  simp only [bodyOf, Tryd.f15, SA]
  cases hr : rdT t with
  | none =>
    rw [hr] at h
    simp only [h, sizeX, hr, adopt_nilD, TMA, RR, IA, PA, RA0, RA1, RA2, RA3, RA4, RA5, RA6, RA7, RA8, RA9, RA10, Nat.reduceAdd, Nat.reduceMul, Nat.reduceEqDiff, Nat.reduceLeDiff, Nat.reduceLT, Int.reduceToNat, Int.reduceLT, Int.reduceLE, Int.reduceEq, Int.reduceNeg, Int.reduceAdd, Int.reduceSub, Int.reduceMul, reduceIte]
  | some x =>
    rw [hr] at h
    have hs := size_ev (encP_is x) (by have := rd_lenD hr; omega)
    simp only [h, hs, sizeX, hr, adopt_encD, TMA, RR, IA, PA, RA0, RA1, RA2, RA3, RA4, RA5, RA6, RA7, RA8, RA9, RA10, Nat.reduceAdd, Nat.reduceMul, Nat.reduceEqDiff, Nat.reduceLeDiff, Nat.reduceLT, Int.reduceToNat, Int.reduceLT, Int.reduceLE, Int.reduceEq, Int.reduceNeg, Int.reduceAdd, Int.reduceSub, Int.reduceMul, reduceIte]
theorem T_termValid : TT 11 = some (Tryd.f11, bodyOf Tryd.f11) := by kernel_rfl
theorem termValid_ev (t : List UInt8) (hl : t.length < 4611686018427387904) : EE 11 [S t] = some (B (rdT t).isSome) := by
  have h := termOf_ev t hl
  refine EE_plain T_termValid (by decide) (Nat.le_of_ble_eq_true rfl) rfl ?_
  rw [show opt 11 = [] from rfl]
  simp only [bodyOf, Tryd.f11, SA]
  cases hr : rdT t with
  | none =>
    rw [hr] at h
    simp only [h, adopt_nilD, Option.isSome_none, TMA, RR, IA, PA, RA0, RA1, RA2, RA3, RA4, RA5, RA6, RA7, RA8, RA9, RA10, Nat.reduceAdd, Nat.reduceMul, Nat.reduceEqDiff, Nat.reduceLeDiff, Nat.reduceLT, Int.reduceToNat, Int.reduceLT, Int.reduceLE, Int.reduceEq, Int.reduceNeg, Int.reduceAdd, Int.reduceSub, Int.reduceMul, reduceIte]
  | some x =>
    rw [hr] at h
    simp only [h, adopt_encD, Option.isSome_some, TMA, RR, IA, PA, RA0, RA1, RA2, RA3, RA4, RA5, RA6, RA7, RA8, RA9, RA10, Nat.reduceAdd, Nat.reduceMul, Nat.reduceEqDiff, Nat.reduceLeDiff, Nat.reduceLT, Int.reduceToNat, Int.reduceLT, Int.reduceLE, Int.reduceEq, Int.reduceNeg, Int.reduceAdd, Int.reduceSub, Int.reduceMul, reduceIte]
end
end Go.Proofs.YtegbkihgnofkfaaDoor.Ev
