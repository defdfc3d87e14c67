/-
Small functions by the engine.
-/
import Derived.Test.YtibjofpgbcbloaaEvBase
namespace Go.Proofs.Ytibjofpgbcbloaa.Ev
open Go Go.RowKit
set_option linter.unusedVariables false
set_option linter.unusedSimpArgs false

theorem T_l1In : TT 16 = some (Try.f16, bodyOf Try.f16) := by kernel_rfl
theorem l1In_ev (x a b : Int) : EE 16 [N x, N a, N b] = some (B (decide (a ≤ x ∧ x ≤ b))) := by
  refine EE_plain T_l1In (by decide) (Nat.le_of_ble_eq_true rfl) (by rfl) ?_
  rw [show opt 16 = [] from rfl]
  simp only [bodyOf, Try.f16, SA]
  by_cases h1 : a ≤ x
  · simp only [h1, ge_iff_le, IA, PA, RA0, RA1, RA2, RA3, RA4, RA5, RA6, RA7, RA8, RA9, Nat.reduceAdd, Nat.reduceMul, Nat.reduceEqDiff, Nat.reduceLeDiff, Nat.reduceLT, Int.reduceToNat, Int.reduceLT, Int.reduceLE, Int.reduceEq, Int.reduceNeg, Int.reduceAdd, Int.reduceSub, Int.reduceMul, reduceIte]
  · simp only [h1, ge_iff_le, false_and, IA, PA, RA0, RA1, RA2, RA3, RA4, RA5, RA6, RA7, RA8, RA9, Nat.reduceAdd, Nat.reduceMul, Nat.reduceEqDiff, Nat.reduceLeDiff, Nat.reduceLT, Int.reduceToNat, Int.reduceLT, Int.reduceLE, Int.reduceEq, Int.reduceNeg, Int.reduceAdd, Int.reduceSub, Int.reduceMul, reduceIte]

/-- Where a byte is first found from place i on, -1 if nowhere. -/
def findFrom (c : UInt8) (i : Nat) : List UInt8 → Int
  | [] => -1
  | x :: l => if x = c then (i : Int) else findFrom c (i + 1) l
theorem T_l13Find : TT 41 = some (Try.f41, bodyOf Try.f41) := by kernel_rfl
theorem l13Find_loop (l : List UInt8) (c : UInt8) (hl : l.length < 4611686018427387904) : ∀ (r : List UInt8) (i n : Nat) (e : Nat → AV) (σ : Sto) (nx : Nat) (q : Option (Ex × St)),
    l.drop i = r → i ≤ l.length → r.length < n → roundsE (evC II EE (withOpt [] pf) MX (bodyL Try.f41 0)) n ⟨e, σ, nx⟩ = q → e 0 = S l → e 1 = U c → e 5 = N i →
    ∃ e' nx', (findFrom c i r = -1 ∧ q = some (.exit 0, ⟨e', σ, nx'⟩)) ∨ (q = some (.ret, ⟨e', σ, nx'⟩) ∧ e' 4 = N (findFrom c i r)) := by
  intro r
  induction r with
  | nil =>
    intro i n e σ nx q hd hi hn hq h0 h1 h5
    have hlen : l.length ≤ i := by simpa using hd
    obtain ⟨k, rfl⟩ : ∃ k, n = k + 1 := ⟨n - 1, by omega⟩
    rw [rounds_rd] at hq
    have hc : ¬ ((i : Int) < (l.length : Int)) := by omega
    simp only [bodyL, bodyOf, Try.f41, SA, loops, List.nil_append, List.append_nil, List.cons_append, List.getD_cons_zero, List.getD_cons_succ] at hq
    simp only [h0, h1, h5, hc, size_mk, IA, PA, RA0, RA1, RA2, RA3, RA4, RA5, RA6, RA7, RA8, RA9, Nat.reduceAdd, Nat.reduceMul, Nat.reduceEqDiff, Nat.reduceLeDiff, Nat.reduceLT, Int.reduceToNat, Int.reduceLT, Int.reduceLE, Int.reduceEq, Int.reduceNeg, Int.reduceAdd, Int.reduceSub, Int.reduceMul, reduceIte] at hq
    exact ⟨_, _, .inl ⟨rfl, hq.symm⟩⟩
  | cons x r ih =>
    intro i n e σ nx q hd hi hn hq h0 h1 h5
    have hlen : i < l.length := by
      rcases Nat.lt_or_ge i l.length with h | h
      · exact h
      · rw [List.drop_eq_nil_of_le h] at hd
        cases hd
    have hx : l[i]? = some x := by
      have : (l.drop i)[0]? = some x := by rw [hd]; rfl
      simpa using this
    have hd' : l.drop (i + 1) = r := by
      have : (l.drop i).drop 1 = r := by rw [hd]; rfl
      simpa [List.drop_drop] using this
    obtain ⟨k, rfl⟩ : ∃ k, n = k + 1 := ⟨n - 1, by omega⟩
    rw [rounds_rd] at hq
    have hc : ((i : Int) < (l.length : Int)) := by omega
    have hz : (0 : Int) ≤ (i : Int) := by omega
    have hw : IntKind.i64.wrap ((i : Int) + 1) = ((i + 1 : Nat) : Int) := by rw [wrap64 (by omega) (by omega)]; rfl
    simp only [bodyL, bodyOf, Try.f41, SA, loops, List.nil_append, List.append_nil, List.cons_append, List.getD_cons_zero, List.getD_cons_succ] at hq
    by_cases he : x = c
    · subst he
      simp only [h0, h1, h5, hc, hz, hx, Int.toNat_natCast, size_mk, IA, PA, RA0, RA1, RA2, RA3, RA4, RA5, RA6, RA7, RA8, RA9, Nat.reduceAdd, Nat.reduceMul, Nat.reduceEqDiff, Nat.reduceLeDiff, Nat.reduceLT, Int.reduceToNat, Int.reduceLT, Int.reduceLE, Int.reduceEq, Int.reduceNeg, Int.reduceAdd, Int.reduceSub, Int.reduceMul, reduceIte] at hq
      refine ⟨_, _, .inr ⟨hq.symm, ?_⟩⟩
      simp [findFrom]
    · have he2 : ¬ ((x.toNat : Int) = (c.toNat : Int)) := fun h => he (UInt8.toNat_inj.1 (by omega))
      simp only [h0, h1, h5, hc, hz, hx, he2, hw, Int.toNat_natCast, size_mk, IA, PA, RA0, RA1, RA2, RA3, RA4, RA5, RA6, RA7, RA8, RA9, Nat.reduceAdd, Nat.reduceMul, Nat.reduceEqDiff, Nat.reduceLeDiff, Nat.reduceLT, Int.reduceToNat, Int.reduceLT, Int.reduceLE, Int.reduceEq, Int.reduceNeg, Int.reduceAdd, Int.reduceSub, Int.reduceMul, reduceIte] at hq
      rw [findFrom, if_neg he]
      exact ih (i + 1) k _ σ _ q hd' (by omega) (by simpa using hn) hq h0 h1 rfl
theorem lt_MX {n : Nat} (h : n < 9223372036854775808) : n < MX := Nat.lt_of_lt_of_le h (by decide)
theorem l13Find_ev (l : List UInt8) (c : UInt8) (hl : l.length < 4611686018427387904) : EE 41 [S l, U c] = some (N (findFrom c 0 l)) := by
  refine EE_plain T_l13Find (by decide) (Nat.le_of_ble_eq_true rfl) (by rfl) ?_
  rw [show opt 41 = [] from rfl]
  simp only [bodyOf, Try.f41, SA]
  simp only [IA, PA, RA0, RA1, RA2, RA3, RA4, RA5, RA6, RA7, RA8, RA9, Nat.reduceAdd, Nat.reduceMul, Nat.reduceEqDiff, Nat.reduceLeDiff, Nat.reduceLT, Int.reduceToNat, Int.reduceLT, Int.reduceLE, Int.reduceEq, Int.reduceNeg, Int.reduceAdd, Int.reduceSub, Int.reduceMul, reduceIte]
  generalize hq : roundsE _ _ _ = q
  obtain ⟨e', nx', h | h⟩ := l13Find_loop l c hl l 0 MX _ _ _ q rfl (Nat.zero_le _) (lt_MX (by omega)) hq rfl rfl rfl
  · obtain ⟨h1, rfl⟩ := h
    simp only [h1, IA, PA, RA0, RA1, RA2, RA3, RA4, RA5, RA6, RA7, RA8, RA9, Nat.reduceAdd, Nat.reduceMul, Nat.reduceEqDiff, Nat.reduceLeDiff, Nat.reduceLT, Int.reduceToNat, Int.reduceLT, Int.reduceLE, Int.reduceEq, Int.reduceNeg, Int.reduceAdd, Int.reduceSub, Int.reduceMul, reduceIte]
  · obtain ⟨rfl, h4⟩ := h
    simp only [h4, IA, PA, RA0, RA1, RA2, RA3, RA4, RA5, RA6, RA7, RA8, RA9, Nat.reduceAdd, Nat.reduceMul, Nat.reduceEqDiff, Nat.reduceLeDiff, Nat.reduceLT, Int.reduceToNat, Int.reduceLT, Int.reduceLE, Int.reduceEq, Int.reduceNeg, Int.reduceAdd, Int.reduceSub, Int.reduceMul, reduceIte]
end Go.Proofs.Ytibjofpgbcbloaa.Ev
