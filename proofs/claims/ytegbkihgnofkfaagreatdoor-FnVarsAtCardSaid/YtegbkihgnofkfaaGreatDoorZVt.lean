/-
Texts Vt to Vt of the work.
-/
import Derived.Test.YtegbkihgnofkfaaGreatDoorZVr
/-
Code: the reference's VarsAt.
-/
namespace Go.Proofs.YtegbkihgnofkfaaGreatDoor.Ev
section
set_option linter.unusedVariables false
set_option linter.unusedSimpArgs false
open Go Go.RowKit
set_option linter.unusedVariables false
set_option linter.unusedSimpArgs false
theorem list_begs : ∀ t, WF t → Begs (listT t) := by
  intro t
  induction t with
  | dig c => intro hw y hy hb; simp only [listT, List.mem_singleton] at hy; subst hy; cases hb
  | var c => intro hw y hy hb; simp only [listT, List.mem_singleton] at hy; subst hy; cases hb
  | one s x ih =>
    intro hw y hy hb
    simp only [listT, List.mem_append, List.mem_singleton] at hy
    rcases hy with hy | rfl
    · exact ih hw.2 y hy hb
    · cases hb
  | two s x y ihx ihy =>
    intro hw z hz hb
    simp only [listT, List.mem_append, List.mem_singleton] at hz
    rcases hz with (hz | hz) | rfl
    · exact ihx hw.2.1 z hz hb
    · exact ihy hw.2.2 z hz hb
    · cases hb
  | loop s v x y ihx ihy =>
    intro hw z hz hb
    simp only [listT, List.mem_append, List.mem_singleton] at hz
    rcases hz with ((hz | rfl) | hz) | rfl
    · exact ihx hw.2.2.1 z hz hb
    · exact kind_beg hw.1 hw.2.1
    · exact ihy hw.2.2.2 z hz hb
    · cases hb
theorem runP_sum : ∀ {l : List (List UInt8)} {p q : PS} {hs ls : List Nat}, runP l p = some (q, hs, ls) → (q.lp.length : Int) = p.lp.length + sumL l
  | [], p, q, hs, ls, h => by
    simp only [runP, Option.some.injEq, Prod.mk.injEq] at h
    obtain ⟨rfl, _, _⟩ := h
    simp [sumL]
  | s :: l, p, q, hs, ls, h => by
    simp only [runP] at h
    split at h
    · rename_i p' h1
      split at h
      · rename_i h2
        simp only [Option.some.injEq, Prod.mk.injEq] at h
        obtain ⟨rfl, _, _⟩ := h
        have e1 := runP_sum h2
        have e2 := (doP_len h1).2
        rw [sumL_cons]
        omega
      · cases h
    · cases h
theorem runP_split : ∀ {a b : List (List UInt8)} {p q : PS} {hs ls : List Nat}, runP (a ++ b) p = some (q, hs, ls) → ∃ p1 h1 l1 h2 l2, runP a p = some (p1, h1, l1) ∧ runP b p1 = some (q, h2, l2)
  | [], b, p, q, hs, ls, h => ⟨p, [], [], hs, ls, rfl, h⟩
  | s :: a, b, p, q, hs, ls, h => by
    simp only [List.cons_append, runP] at h
    split at h
    · rename_i p' h1
      split at h
      · rename_i h2
        simp only [Option.some.injEq, Prod.mk.injEq] at h
        obtain ⟨rfl, _, _⟩ := h
        obtain ⟨p1, i1, i2, i3, i4, i5, i6⟩ := runP_split h2
        exact ⟨p1, p'.st.length :: i1, min p.lp.length p'.lp.length :: i2, i3, i4, by simp only [runP, h1, i5], i6⟩
      · cases h
    · cases h
/-- A loop that has begun ends; the level there. -/
theorem clo_ok {L : List (List UInt8)} {t : T} {hs ls : List Nat} (h : runP L ⟨[], []⟩ = some (⟨[t], []⟩, hs, ls)) {i : Nat} {z : List UInt8} {r : List (List UInt8)} (hd : L.drop i = z :: r) (hb : begM z = true) : clo 1 r < r.length ∧ 0 ≤ sumL (L.take i) := by
  rw [← List.take_append_drop i L] at h
  obtain ⟨p1, h1, l1, h2, l2, h3, h4⟩ := runP_split h
  have e1 := runP_sum h3
  have e2 := runP_sum h4
  rw [hd, sumL_cons] at e2
  have hdl : dL z = 1 := by simp [dL, hb]
  simp only [List.length_nil] at e1 e2
  refine ⟨clo_lt r 1 (by omega) (by omega), by omega⟩
/-- The variables within the loop that begins there. -/
def varsM (L : List (List UInt8)) (i : Int) : Option (List UInt8) :=
  if i < 0 then none else match L.drop i.toNat with
  | [] => none
  | z :: r => if begM z = true then some ((V7.filter fun v => (z :: r.take (clo 1 r)).contains v).flatten) else none
theorem cut_w_both (sz id lo n : Nat) (k1 k2 : IntKind) (i j : Int) (h : 0 ≤ i ∧ i ≤ j ∧ j ≤ (n : Int)) : cut sz (.w id lo n) (some (.v (.int k1 i))) (some (.v (.int k2 j))) = some (.w id (lo + i.toNat * sz) (j.toNat - i.toNat)) := by
  obtain ⟨h1, h2, h3⟩ := h
  simp only [cut, bound]
  rw [if_pos ⟨by omega, h3⟩]
  simp only [Option.bind_some]
  rw [if_pos ⟨h1, by omega⟩]
  rfl
/-- A call that is given a part of a row and gives a plain value. -/
theorem call0_wl {C : Sem1} {pf' : FuncId → Nat} {σ : Sto} {key : Nat} {f : FuncId} {id lo n E sz N' : Nat} {cs : List AV} {r : Value} (hσ : σ id = some (.row E sz N' cs)) (hp : pf' f = 0) (hl : lo + n * sz ≤ cs.length) (hc : closedL cs = true) (hr : C f [.s false n ((cs.drop lo).take (n * sz))] = some (.v r)) :
    callOp C pf' σ key f [.w id lo n] = some (.v r, σ) := by
  unfold callOp
  rw [if_neg (by omega), if_neg (by omega), if_neg (by omega)]
  have h2 : deepC (deep σ 8) [.w id lo n] = some ([.s false n ((cs.drop lo).take (n * sz))], [id]) := by
    simp only [deepC, deep_w 7 hσ hl hc, Option.bind_some, Option.map_some, List.append_nil]
  rw [h2]
  simp only [Option.bind_some, hr]
  rw [if_pos (.inr rfl)]
  rfl
theorem call0_ws {C : Sem1} {pf' : FuncId → Nat} {σ : Sto} {key : Nat} {f : FuncId} {id n E sz N' : Nat} {cs ys : List AV} {r : Value} (hσ : σ id = some (.row E sz N' cs)) (hp : pf' f = 0) (hl : cs.length = n * sz) (hc : closedL cs = true) (hy : closedL ys = true) (hr : C f (.s false n cs :: ys) = some (.v r)) :
    callOp C pf' σ key f (.w id 0 n :: ys) = some (.v r, σ) := call0_w hσ hp hl hc hy hr
theorem T_specVarsAt : TT 6 = some (Tryz.f6, bodyOf Tryz.f6) := by kernel_rfl
theorem specVarsAt_ev (code : List UInt8) (i : Int) (hl : code.length < 50000000) (hi : (Lit.int .i64 i).wf = true) : EE 6 [S code, N i] = some (match (if (specB code).isSome = true then varsM (cutL 32 code) i else none) with | some o => .t [S o, B true] | none => .t [S [], B false]) := by
  refine EE_plain T_specVarsAt (by decide) (Nat.le_of_ble_eq_true rfl) rfl ?_
  rw [show opt 6 = [] from rfl]
  simp only [bodyOf, Tryz.f6, SA]
  have h := specInstructionsOf_ev code hl
  cases hs : specB code with
  | none =>
    rw [hs] at h
    simp only [Option.isSome_none, Bool.false_eq_true, if_false] at h ⊢
    have hin : decide (0 ≤ i ∧ i ≤ -1) = false := by simp only [decide_eq_false_iff_not]; omega
    simp only [h, l1In_ev, hin, TMA, RR, IA, PA, RA0, RA1, RA2, RA3, RA4, RA5, RA6, RA7, RA8, RA9, RA10, Nat.reduceAdd, Nat.reduceMul, Nat.reduceEqDiff, Nat.reduceLeDiff, Nat.reduceLT, Int.reduceToNat, Int.reduceLT, Int.reduceLE, Int.reduceEq, Int.reduceNeg, Int.reduceAdd, Int.reduceSub, Int.reduceMul, reduceIte]
  | some w =>
    obtain ⟨t, hh, lv⟩ := w
    rw [hs] at h
    simp only [Option.isSome_some, if_true] at h ⊢
    obtain ⟨_, hw, hcl, hrun, _⟩ := spec_impl hs
    have hbegs := list_begs t hw
    rw [← hcl] at hrun hbegs
    have hcll := cutL_len 32 code
    have hne : (cutL 32 code).length ≠ 0 := by obtain ⟨x, y, e⟩ := cutL_cons 32 code; rw [e]; simp
    generalize cutL 32 code = L at h hrun hbegs hcll hne ⊢
    have hwl : IntKind.i64.wrap ((L.length : Int) - 1) = (L.length : Int) - 1 := by rw [wrap64 (by omega) (by omega)]
    by_cases hin : 0 ≤ i ∧ i ≤ (L.length : Int) - 1
    · obtain ⟨k, rfl⟩ := Int.eq_ofNat_of_zero_le hin.1
      have hk : k < L.length := by omega
      obtain ⟨z, r, hd⟩ : ∃ z r, L.drop k = z :: r := by
        cases hd : L.drop k with
        | nil => have := congrArg List.length hd; simp at this; omega
        | cons z r => exact ⟨z, r, rfl⟩
      have hhd : ((strs L).drop k).head? = some (S z) := by rw [strs_drop, hd]; rfl
      have hz : (0 : Int) ≤ (k : Int) := by omega
      have hc : ((k : Int) < (L.length : Int)) := by omega
      have hind : decide (0 ≤ (k : Int) ∧ (k : Int) ≤ (L.length : Int) - 1) = true := by simp only [decide_eq_true_eq]; exact hin
      have hkd := l7Kind_ev z
      have e91 : decide (((kindM z).toNat : Int) = 91) = decide (kindM z = 91) := u8_int (kindM z) 91
      obtain ⟨_, hx, _⟩ := strs_drop_head hd
      have hle : ((k : Int) ≤ (L.length : Int) - 1) := by omega
      have hvm : varsM L (k : Int) = if begM z = true then some ((V7.filter fun v => (z :: r.take (clo 1 r)).contains v).flatten) else none := by
        unfold varsM
        rw [if_neg (by omega), Int.toNat_natCast, hd]
      by_cases hb : begM z = true
      · have hkb : decide (kindM z = 91) = true := by
          have := hbegs z (List.mem_of_getElem? hx) hb
          simp [this]
        obtain ⟨hclo, _⟩ := clo_ok hrun hd hb
        have hclose := l7Close_ev false L (by omega) hbegs k z r hd hb hclo
        have hrl : r.length + 1 + k = L.length := by
          have := congrArg List.length hd
          rw [List.length_drop] at this
          simp only [List.length_cons] at this
          omega
        have hsub : ((strs L).drop (0 + k)).take ((k + 1 + clo 1 r - k) * 1) = strs (z :: r.take (clo 1 r)) := by
          rw [Nat.zero_add, strs_drop, hd, Nat.mul_one, show k + 1 + clo 1 r - k = clo 1 r + 1 by omega, strs_take, List.take_succ_cons]
        have hvars := l7Vars_ev false (z :: r.take (clo 1 r)) (by simp; omega)
        rw [hvm, if_pos hb]
        simp only [h, l1In_ev, hwl, hle, hind, hz, hc, hhd, hkd, e91, hkb, strs_closed, Int.toNat_natCast, Nat.mul_one, Nat.zero_add, TMA, RR, IA, PA, RA0, RA1, RA2, RA3, RA4, RA5, RA6, RA7, RA8, RA9, RA10, Nat.reduceAdd, Nat.reduceMul, Nat.reduceEqDiff, Nat.reduceLeDiff, Nat.reduceLT, Int.reduceToNat, Int.reduceLT, Int.reduceLE, Int.reduceEq, Int.reduceNeg, Int.reduceAdd, Int.reduceSub, Int.reduceMul, reduceIte]
        rw [call0_ws (E := 9) (sz := 1) (by rfl) (by rfl) (by rw [strs_len, Nat.mul_one]) (strs_closed _) (by rfl) (by exact hclose)]
        simp only [RR, IA, PA, RA0, RA1, RA2, RA3, RA4, RA5, RA6, RA7, RA8, RA9, RA10, Nat.reduceAdd, Nat.reduceMul, Nat.reduceEqDiff, Nat.reduceLeDiff, Nat.reduceLT, Int.reduceToNat, Int.reduceLT, Int.reduceLE, Int.reduceEq, Int.reduceNeg, Int.reduceAdd, Int.reduceSub, Int.reduceMul, reduceIte]
        rw [cut_w_both _ _ _ _ _ _ _ _ ⟨by omega, by omega, by omega⟩]
        simp only [Int.toNat_natCast, RR, IA, PA, RA0, RA1, RA2, RA3, RA4, RA5, RA6, RA7, RA8, RA9, RA10, Nat.reduceAdd, Nat.reduceMul, Nat.reduceEqDiff, Nat.reduceLeDiff, Nat.reduceLT, Int.reduceToNat, Int.reduceLT, Int.reduceLE, Int.reduceEq, Int.reduceNeg, Int.reduceAdd, Int.reduceSub, Int.reduceMul, reduceIte]
        have hlen3 : k + 1 + clo 1 r - k = (z :: r.take (clo 1 r)).length := by simp; omega
        rw [hlen3] at hsub ⊢
        rw [Nat.zero_add] at hsub
        rw [call0_wl (E := 9) (sz := 1) (cs := strs L) (by rfl) (by rfl) (by rw [strs_len]; simp; omega) (strs_closed _) (by rw [hsub]; exact hvars)]
        simp only [RR, IA, PA, RA0, RA1, RA2, RA3, RA4, RA5, RA6, RA7, RA8, RA9, RA10, Nat.reduceAdd, Nat.reduceMul, Nat.reduceEqDiff, Nat.reduceLeDiff, Nat.reduceLT, Int.reduceToNat, Int.reduceLT, Int.reduceLE, Int.reduceEq, Int.reduceNeg, Int.reduceAdd, Int.reduceSub, Int.reduceMul, reduceIte]
      · have hbf : begM z = false := by simpa using hb
        have hkb : decide (kindM z = 91) = false := by
          simp only [decide_eq_false_iff_not]
          intro h
          exact hb (kind_91 h)
        rw [hvm, if_neg hb]
        simp only [h, l1In_ev, hwl, hle, hind, hz, hc, hhd, hkd, e91, hkb, strs_closed, Int.toNat_natCast, Nat.mul_one, Nat.zero_add, TMA, RR, IA, PA, RA0, RA1, RA2, RA3, RA4, RA5, RA6, RA7, RA8, RA9, RA10, Nat.reduceAdd, Nat.reduceMul, Nat.reduceEqDiff, Nat.reduceLeDiff, Nat.reduceLT, Int.reduceToNat, Int.reduceLT, Int.reduceLE, Int.reduceEq, Int.reduceNeg, Int.reduceAdd, Int.reduceSub, Int.reduceMul, reduceIte]
    · have hind : decide (0 ≤ i ∧ i ≤ (L.length : Int) - 1) = false := by simp only [decide_eq_false_iff_not]; exact hin
      have hvm : varsM L i = none := by
        unfold varsM
        by_cases h0 : i < 0
        · rw [if_pos h0]
        · rw [if_neg h0, List.drop_eq_nil_of_le (by omega)]
      rw [hvm]
      simp only [h, l1In_ev, hwl, hind, strs_closed, TMA, RR, IA, PA, RA0, RA1, RA2, RA3, RA4, RA5, RA6, RA7, RA8, RA9, RA10, Nat.reduceAdd, Nat.reduceMul, Nat.reduceEqDiff, Nat.reduceLeDiff, Nat.reduceLT, Int.reduceToNat, Int.reduceLT, Int.reduceLE, Int.reduceEq, Int.reduceNeg, Int.reduceAdd, Int.reduceSub, Int.reduceMul, reduceIte]
end
end Go.Proofs.YtegbkihgnofkfaaGreatDoor.Ev
