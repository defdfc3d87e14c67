/-
Texts Tc to Tc of the work.
-/
import Derived.Test.YtegbkihgnofkfaaGreatDoorZTm
/-
Reading a term: the reference's reader, step by step.
-/
namespace Go.Proofs.YtegbkihgnofkfaaGreatDoor.Ev
section
set_option linter.unusedVariables false
set_option linter.unusedSimpArgs false
open Go Go.RowKit
set_option linter.unusedVariables false
set_option linter.unusedSimpArgs false

/-- The reader, as it is lent. -/
abbrev rcs (text : List UInt8) (i : Nat) (b : Bool) : List AV := [S text, N i, B b]
abbrev rdr (text : List UInt8) (i : Nat) (b : Bool) : AV := lent 87 (rcs text i b)
/-- The next byte, and the reader behind it. -/
def nxM (text : List UInt8) (i : Nat) (b : Bool) : UInt8 × Nat × Bool := match text[i]? with | some c => (c, i + 1, b) | none => (0, i, true)
theorem nxM_some {text : List UInt8} {i : Nat} {c : UInt8} (b : Bool) (h : text[i]? = some c) : nxM text i b = (c, i + 1, b) := by simp only [nxM, h]
theorem nxM_none {text : List UInt8} {i : Nat} (b : Bool) (h : text[i]? = none) : nxM text i b = (0, i, true) := by simp only [nxM, h]

theorem T_next : TT 84 = some (Tryz.f84, bodyOf Tryz.f84) := by kernel_rfl
theorem next_ev (text : List UInt8) (i : Nat) (b : Bool) (hi : i ≤ text.length) (hl : text.length < 4611686018427387904) :
    EE 84 [rdr text i b] = some (.t [U (nxM text i b).1, .t [rdr text (nxM text i b).2.1 (nxM text i b).2.2]]) := by
  refine EE_lend T_next (by decide) (Nat.le_of_ble_eq_true rfl) rfl rfl ?_
  rw [show opt 84 = [] from rfl]
  simp only [bodyOf, Tryz.f84, SA]
  rcases Nat.lt_or_ge i text.length with h | h
  · obtain ⟨c, hc⟩ : ∃ c, text[i]? = some c := ⟨_, List.getElem?_eq_getElem h⟩
    have h1 : ¬ ((text.length : Int) ≤ (i : Int)) := by omega
    have h2 : IntKind.i64.wrap ((i : Int) + 1) = ((i + 1 : Nat) : Int) := by rw [wrap64 (by omega) (by omega)]; rfl
    have h3 : IntKind.i64.wrap (((i + 1 : Nat) : Int) - 1) = (i : Int) := by rw [wrap64 (by omega) (by omega)]; omega
    have h4 : (0 : Int) ≤ (i : Int) := by omega
    rw [nxM_some b hc]
    simp only [h1, h2, h3, h4, hc, IA, PA, RA0, RA1, RA2, RA3, RA4, RA5, RA6, RA7, RA8, RA9, RA10, Nat.reduceAdd, Nat.reduceMul, Nat.reduceEqDiff, Nat.reduceLeDiff, Nat.reduceLT, Int.reduceToNat, Int.reduceLT, Int.reduceLE, Int.reduceEq, Int.reduceNeg, Int.reduceAdd, Int.reduceSub, Int.reduceMul, reduceIte]
    exact out_one (by rfl) rfl (by rfl) rfl rfl
  · have hc : text[i]? = none := List.getElem?_eq_none h
    have h1 : ((text.length : Int) ≤ (i : Int)) := by omega
    rw [nxM_none b hc]
    simp only [h1, IA, PA, RA0, RA1, RA2, RA3, RA4, RA5, RA6, RA7, RA8, RA9, RA10, Nat.reduceAdd, Nat.reduceMul, Nat.reduceEqDiff, Nat.reduceLeDiff, Nat.reduceLT, Int.reduceToNat, Int.reduceLT, Int.reduceLE, Int.reduceEq, Int.reduceNeg, Int.reduceAdd, Int.reduceSub, Int.reduceMul, reduceIte]
    exact out_one (by rfl) rfl (by rfl) rfl rfl
theorem nxM_le {text : List UInt8} {i : Nat} (b : Bool) (hi : i ≤ text.length) : i ≤ (nxM text i b).2.1 ∧ (nxM text i b).2.1 ≤ text.length := by
  unfold nxM
  split
  · rename_i c h
    have := (List.getElem?_eq_some_iff.1 h).1
    exact ⟨Nat.le_succ i, this⟩
  · exact ⟨Nat.le_refl i, hi⟩

def isM (text : List UInt8) (i : Nat) (b : Bool) (c : UInt8) : Nat × Bool := ((nxM text i b).2.1, !decide ((nxM text i b).1 = c) || (nxM text i b).2.2)
theorem T_is : TT 86 = some (Tryz.f86, bodyOf Tryz.f86) := by kernel_rfl
theorem is_ev (text : List UInt8) (i : Nat) (b : Bool) (c : UInt8) (hi : i ≤ text.length) (hl : text.length < 4611686018427387904) :
    EE 86 [rdr text i b, U c] = some (.t [.t [], .t [rdr text (isM text i b c).1 (isM text i b c).2, U c]]) := by
  refine EE_lend T_is (by decide) (Nat.le_of_ble_eq_true rfl) rfl rfl ?_
  rw [show opt 86 = [] from rfl]
  simp only [bodyOf, Tryz.f86, SA]
  simp only [IA, PA, RA0, RA1, RA2, RA3, RA4, RA5, RA6, RA7, RA8, RA9, RA10, Nat.reduceAdd, Nat.reduceMul, Nat.reduceEqDiff, Nat.reduceLeDiff, Nat.reduceLT, Int.reduceToNat, Int.reduceLT, Int.reduceLE, Int.reduceEq, Int.reduceNeg, Int.reduceAdd, Int.reduceSub, Int.reduceMul, reduceIte]
  rw [call_ob_v (by rfl) (by rfl) rfl rfl (next_ev text i b hi hl) rfl rfl (show 1 ≤ 4 by decide)]
  have hq : decide (((nxM text i b).1.toNat : Int) = (c.toNat : Int)) = decide ((nxM text i b).1 = c) := by
    rw [decide_eq_decide, ← UInt8.toNat_inj]
    omega
  unfold isM
  generalize nxM text i b = q at hq ⊢
  obtain ⟨x, i', b'⟩ := q
  simp only at hq ⊢
  generalize hz : decide (x = c) = z at hq
  cases z
  all_goals
    simp only [hq, IA, PA, RA0, RA1, RA2, RA3, RA4, RA5, RA6, RA7, RA8, RA9, RA10, Nat.reduceAdd, Nat.reduceMul, Nat.reduceEqDiff, Nat.reduceLeDiff, Nat.reduceLT, Int.reduceToNat, Int.reduceLT, Int.reduceLE, Int.reduceEq, Int.reduceNeg, Int.reduceAdd, Int.reduceSub, Int.reduceMul, reduceIte]
    exact out_none (by simp) (by rfl) (by rfl) rfl rfl
end
end Go.Proofs.YtegbkihgnofkfaaGreatDoor.Ev
