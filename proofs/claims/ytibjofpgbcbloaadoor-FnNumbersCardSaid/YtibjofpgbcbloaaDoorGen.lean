/-
Loops over lists that are told from the front, lengths of joined texts. Plain laws; no program in sight.
-/
import Derived.Test.YtibjofpgbcbloaaDoorDec
import Derived.Lib.Join
import Derived.Laws.Strings
namespace Go.Proofs.YtibjofpgbcbloaaDoor.PA
open Go Go.RowKit Go.Proofs.YtibjofpgbcbloaaDoorW.PrintWords

theorem w64 {x : Int} (h0 : -9223372036854775808 ≤ x) (h1 : x ≤ 9223372036854775807) : wrap64 x = x := by unfold wrap64; omega
/-- A loop over a list from its front, whose state is told by what has been passed. -/
theorem Ev_front {α β γ : Type} (ps : List α) (G : Nat → β → Int → Option γ) (F : List α → β) (r : γ)
    (hstep : ∀ i (h : i < ps.length), Ev (fun k => G k (F (ps.take i ++ [ps[i]])) ((i + 1 : Nat) : Int)) r → Ev (fun k => G k (F (ps.take i)) (i : Int)) r)
    (hend : Ev (fun k => G k (F ps) (ps.length : Int)) r) : Ev (fun k => G k (F []) 0) r := by
  have h : ∀ m i, ps.length - i = m → i ≤ ps.length → Ev (fun k => G k (F (ps.take i)) (i : Int)) r := by
    intro m
    induction m with
    | zero =>
      intro i h hi
      obtain rfl : i = ps.length := by omega
      rw [List.take_length]
      exact hend
    | succ m ih =>
      intro i h hi
      refine hstep i (by omega) ?_
      have h2 := ih (i + 1) (by omega) (by omega)
      rw [List.take_add_one, List.getElem?_eq_getElem (by omega)] at h2
      simpa using h2
  exact h ps.length 0 rfl (Nat.zero_le _)
theorem w64_succ {i n : Nat} (h : i < n) (hn : n < 9223372036854775807) : wrap64 ((i : Int) + 1) = ((i + 1 : Nat) : Int) := by rw [w64 (by omega) (by omega)]; omega
theorem rd_get (l : List Int) (i : Nat) (h : i < l.length) : rd l (i : Int) = l[i] := by
  unfold rd
  simp [List.getD_eq_getElem?_getD, h]
theorem toList_ba (l : List UInt8) : (ba l).toList = l := by
  rw [ByteArray.toList_eq, ba_data]
/-- Texts joined by one byte. -/
def joined (c : UInt8) (ls : List (List UInt8)) : List UInt8 := Lib.join ls [c]
theorem joined_nil (c : UInt8) : joined c [] = [] := rfl
theorem joined_one (c : UInt8) (x : List UInt8) : joined c [x] = x := by simp [joined, Lib.join, List.intercalate]
theorem joined_cons (c : UInt8) (x : List UInt8) (ls : List (List UInt8)) (h : ls ≠ []) : joined c (x :: ls) = x ++ c :: joined c ls := by
  cases ls with
  | nil => exact absurd rfl h
  | cons y r => simp [joined, Lib.join, List.intercalate]
theorem joined_snoc (c : UInt8) : ∀ (ls : List (List UInt8)) (x : List UInt8), ls ≠ [] → joined c (ls ++ [x]) = joined c ls ++ c :: x
  | [], _, h => absurd rfl h
  | [y], x, _ => by rw [List.singleton_append, joined_cons _ _ _ (by simp), joined_one, joined_one]
  | y :: z :: r, x, _ => by
    have ih := joined_snoc c (z :: r) x (by simp)
    rw [List.cons_append, joined_cons _ _ _ (by simp), ih, joined_cons _ y (z :: r) (by simp)]
    simp
theorem joined_length (c : UInt8) (B : Nat) : ∀ (ls : List (List UInt8)), (∀ x ∈ ls, x.length ≤ B) → (joined c ls).length ≤ ls.length * (B + 1)
  | [], _ => by simp [joined_nil]
  | x :: ls, h => by
    have h1 := h x List.mem_cons_self
    have ih := joined_length c B ls (fun y hy => h y (List.mem_cons_of_mem _ hy))
    by_cases hl : ls = []
    · subst hl
      rw [joined_one]
      simp only [List.length_cons, List.length_nil]
      omega
    · rw [joined_cons _ _ _ hl]
      simp only [List.length_append, List.length_cons, Nat.add_mul, Nat.one_mul] at ih ⊢
      omega
end Go.Proofs.YtibjofpgbcbloaaDoor.PA
