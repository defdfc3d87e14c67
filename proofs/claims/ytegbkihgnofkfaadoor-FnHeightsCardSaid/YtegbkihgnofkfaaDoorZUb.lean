/-
Texts Ub to Ub of the work.
-/
import Derived.Test.YtegbkihgnofkfaaDoorZUa
import Derived.Test.YtegbkihgnofkfaaDoorZTg
import Derived.Lib.Join
/-
Code: texts of lists, the code of a term.
-/
namespace Go.Proofs.YtegbkihgnofkfaaDoor.Ev
section
set_option linter.unusedVariables false
set_option linter.unusedSimpArgs false
open Go Go.RowKit
set_option linter.unusedVariables false
set_option linter.unusedSimpArgs false

/-- The text of instructions. -/
def joinS (l : List (List UInt8)) : List UInt8 := Lib.join l [32]
/-- As the reference's loop makes it: what is there, the place. -/
def joinFrom (acc : List UInt8) (i : Nat) : List (List UInt8) → List UInt8
  | [] => acc
  | x :: l => joinFrom ((if 0 < i then acc ++ [32] else acc) ++ x) (i + 1) l
theorem joinFrom_len : ∀ (l : List (List UInt8)) (acc : List UInt8) (i : Nat), acc.length ≤ (joinFrom acc i l).length
  | [], acc, i => Nat.le_refl _
  | x :: l, acc, i => by
    have := joinFrom_len l ((if 0 < i then acc ++ [32] else acc) ++ x) (i + 1)
    simp only [joinFrom]
    refine Nat.le_trans ?_ this
    split <;> simp
theorem joinFrom_tail : ∀ (l : List (List UInt8)) (acc : List UInt8) (i : Nat), 0 < i → joinFrom acc i l = acc ++ Lib.joinTail [32] l
  | [], acc, i, _ => by simp [joinFrom, Lib.joinTail]
  | x :: l, acc, i, h => by
    rw [joinFrom, joinFrom_tail l _ _ (Nat.succ_pos i), if_pos h]
    simp [Lib.joinTail]
theorem joinFrom_join (l : List (List UInt8)) : joinFrom [] 0 l = joinS l := by
  cases l with
  | nil => rfl
  | cons x l =>
    rw [joinFrom, joinFrom_tail l _ _ (Nat.succ_pos 0), if_neg (by omega), joinS, Lib.join_cons]
    rfl

theorem T_l7Text : TT 50 = some (Tryd.f50, bodyOf Tryd.f50) := by kernel_rfl
theorem strs_drop_head {L : List (List UInt8)} {i : Nat} {x : List UInt8} {r : List (List UInt8)} (h : L.drop i = x :: r) : i < L.length ∧ L[i]? = some x ∧ L.drop (i + 1) = r := by
  have h1 : i < L.length := by
    rcases Nat.lt_or_ge i L.length with h2 | h2
    · exact h2
    · rw [List.drop_eq_nil_of_le h2] at h; cases h
  refine ⟨h1, ?_, ?_⟩
  · have : (L.drop i)[0]? = some x := by rw [h]; rfl
    simpa using this
  · have : (L.drop i).drop 1 = r := by rw [h]; rfl
    simpa [List.drop_drop] using this
theorem l7Text_loop (ex : Bool) (L : List (List UInt8)) (hL : L.length < 4611686018427387904) : ∀ (r : List (List UInt8)) (i n : Nat) (acc : List UInt8) (e : Nat → AV) (σ : Sto) (nx : Nat) (q : Option (Ex × St)),
    L.drop i = r → r.length < n → (joinFrom acc i r).length ≤ 1000000 → roundsE (evC II EE (withOpt [] pf) MX (bodyL Tryd.f50 0)) n ⟨e, σ, nx⟩ = q → e 6 = .s ex L.length (strs L) → e 7 = N L.length → e 8 = N i → e 3 = S acc →
    ∃ e' nx', q = some (.exit 0, ⟨e', σ, nx'⟩) ∧ e' 3 = S (joinFrom acc i r) := by
  intro r
  induction r with
  | nil =>
    intro i n acc e σ nx q hd hn hb hq h6 h7 h8 h3
    have hlen : L.length ≤ i := by simpa using hd
    obtain ⟨k, rfl⟩ : ∃ k, n = k + 1 := ⟨n - 1, by omega⟩
    rw [rounds_rd] at hq
    have hc : ¬ ((i : Int) < (L.length : Int)) := by omega
    simp only [bodyL, bodyOf, Tryd.f50, SA, loops, List.nil_append, List.append_nil, List.cons_append, List.getD_cons_zero, List.getD_cons_succ] at hq
    simp only [h6, h7, h8, hc, IA, PA, RA0, RA1, RA2, RA3, RA4, RA5, RA6, RA7, RA8, RA9, RA10, Nat.reduceAdd, Nat.reduceMul, Nat.reduceEqDiff, Nat.reduceLeDiff, Nat.reduceLT, Int.reduceToNat, Int.reduceLT, Int.reduceLE, Int.reduceEq, Int.reduceNeg, Int.reduceAdd, Int.reduceSub, Int.reduceMul, reduceIte] at hq
    exact ⟨_, _, hq.symm, h3⟩
  | cons x r ih =>
    intro i n acc e σ nx q hd hn hb hq h6 h7 h8 h3
    obtain ⟨hi, hx, hd'⟩ := strs_drop_head hd
    obtain ⟨k, rfl⟩ : ∃ k, n = k + 1 := ⟨n - 1, by omega⟩
    rw [rounds_rd] at hq
    simp only [joinFrom] at hb ⊢
    have hmono := joinFrom_len r ((if 0 < i then acc ++ [32] else acc) ++ x) (i + 1)
    have hc : ((i : Int) < (L.length : Int)) := by omega
    have hz : (0 : Int) ≤ (i : Int) := by omega
    have hw : IntKind.i64.wrap ((i : Int) + 1) = ((i + 1 : Nat) : Int) := by rw [wrap64 (by omega) (by omega)]; rfl
    have hhd : ((strs L).drop i).head? = some (S x) := by rw [strs_drop, hd]; rfl
    simp only [bodyL, bodyOf, Tryd.f50, SA, loops, List.nil_append, List.append_nil, List.cons_append, List.getD_cons_zero, List.getD_cons_succ] at hq
    by_cases h0 : 0 < i
    · have h0' : (0 : Int) < (i : Int) := by omega
      rw [if_pos h0] at hmono hb ⊢
      simp only [List.length_append, List.length_cons, List.length_nil] at hmono
      simp only [h6, h7, h8, h3, hc, hz, hw, h0', hhd, Int.toNat_natCast, Nat.mul_one, str_addIf, List.length_append, RR, IA, PA, RA0, RA1, RA2, RA3, RA4, RA5, RA6, RA7, RA8, RA9, RA10, Nat.reduceAdd, Nat.reduceMul, Nat.reduceEqDiff, Nat.reduceLeDiff, Nat.reduceLT, Int.reduceToNat, Int.reduceLT, Int.reduceLE, Int.reduceEq, Int.reduceNeg, Int.reduceAdd, Int.reduceSub, Int.reduceMul, reduceIte] at hq
      rw [if_pos (by omega), if_pos (by omega)] at hq
      exact ih (i + 1) k _ _ σ _ q hd' (by simpa using hn) hb hq h6 h7 rfl rfl
    · have h0' : ¬ (0 : Int) < (i : Int) := by omega
      rw [if_neg h0] at hmono hb ⊢
      simp only [List.length_append] at hmono
      simp only [h6, h7, h8, h3, hc, hz, hw, h0', hhd, Int.toNat_natCast, Nat.mul_one, str_addIf, List.length_append, RR, IA, PA, RA0, RA1, RA2, RA3, RA4, RA5, RA6, RA7, RA8, RA9, RA10, Nat.reduceAdd, Nat.reduceMul, Nat.reduceEqDiff, Nat.reduceLeDiff, Nat.reduceLT, Int.reduceToNat, Int.reduceLT, Int.reduceLE, Int.reduceEq, Int.reduceNeg, Int.reduceAdd, Int.reduceSub, Int.reduceMul, reduceIte] at hq
      rw [if_pos (by omega)] at hq
      exact ih (i + 1) k _ _ σ _ q hd' (by simpa using hn) hb hq h6 h7 rfl rfl
theorem l7Text_ev (ex : Bool) (L : List (List UInt8)) (hL : L.length < 4611686018427387904) (hb : (joinS L).length ≤ 1000000) : EE 50 [.s ex L.length (strs L)] = some (S (joinS L)) := by
  refine EE_plain T_l7Text (by decide) (Nat.le_of_ble_eq_true rfl) (by simp only [closedL, closed, strs_closed, Bool.and_self]) ?_
  rw [show opt 50 = [] from rfl]
  simp only [bodyOf, Tryd.f50, SA]
  simp only [IA, PA, RA0, RA1, RA2, RA3, RA4, RA5, RA6, RA7, RA8, RA9, RA10, Nat.reduceAdd, Nat.reduceMul, Nat.reduceEqDiff, Nat.reduceLeDiff, Nat.reduceLT, Int.reduceToNat, Int.reduceLT, Int.reduceLE, Int.reduceEq, Int.reduceNeg, Int.reduceAdd, Int.reduceSub, Int.reduceMul, reduceIte]
  generalize hq : roundsE _ _ _ = q
  rw [← joinFrom_join] at hb ⊢
  obtain ⟨e', nx', rfl, h3⟩ := l7Text_loop ex L hL L 0 MX [] _ _ _ q rfl (lt_MX (by omega)) hb hq rfl rfl rfl rfl
  simp only [h3, IA, PA, RA0, RA1, RA2, RA3, RA4, RA5, RA6, RA7, RA8, RA9, RA10, Nat.reduceAdd, Nat.reduceMul, Nat.reduceEqDiff, Nat.reduceLeDiff, Nat.reduceLT, Int.reduceToNat, Int.reduceLT, Int.reduceLE, Int.reduceEq, Int.reduceNeg, Int.reduceAdd, Int.reduceSub, Int.reduceMul, reduceIte]
end
end Go.Proofs.YtegbkihgnofkfaaDoor.Ev
