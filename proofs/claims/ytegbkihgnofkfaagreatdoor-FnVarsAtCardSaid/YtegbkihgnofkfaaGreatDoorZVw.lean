/-
Texts Vw to Vx of the work.
-/
import Derived.Test.YtegbkihgnofkfaaGreatDoorZVu
/-
Code: the variables of a loop, both ways the same list.
-/
namespace Go.Proofs.YtegbkihgnofkfaaGreatDoor.Ev
section
set_option linter.unusedVariables false
set_option linter.unusedSimpArgs false
open Go Go.RowKit
set_option linter.unusedVariables false
set_option linter.unusedSimpArgs false
abbrev BL := List UInt8
theorem keeps_iff (zs : List BL) (m : Nat) (hm : m < zs.length) : Lib.keeps zs.toArray m = true ↔ m = 0 ∨ zs[m] ≠ zs[m - 1]'(by omega) := by
  have h1 : zs.toArray[m]! = zs[m] := by simp [getElem!_pos, hm]
  have h2 : zs.toArray[m - 1]! = zs[m - 1]'(by omega) := by rw [getElem!_pos _ _ (by simp; omega)]; simp
  by_cases h0 : m = 0
  · subst h0
    simp [Lib.keeps_lt_one _ 0 (by omega)]
  · by_cases he : zs[m] = zs[m - 1]'(by omega)
    · have := Lib.keeps_neg (d := zs.toArray) (by omega : 0 < m) (by rw [h1, h2]; exact he)
      simp [this, h0, he]
    · have := Lib.keeps_pos (d := zs.toArray) (m := m) (by rw [h1, h2]; exact he)
      simp [this, he]
theorem compact_up (zs : List BL) (hs : zs.Pairwise (· ≤ ·)) : ∀ m, m ≤ zs.length → (Lib.compactUpTo zs.toArray m).Pairwise (· < ·) ∧ ∀ x, x ∈ Lib.compactUpTo zs.toArray m ↔ x ∈ zs.take m := by
  intro m
  induction m with
  | zero => intro _; simp [Lib.compactUpTo]
  | succ m ih =>
    intro hm
    obtain ⟨h1, h2⟩ := ih (by omega)
    have hml : m < zs.length := by omega
    have hd : zs.toArray[m]! = zs[m] := by simp [getElem!_pos, hml]
    rw [Lib.compactUpTo_succ, hd, List.take_succ_eq_append_getElem hml]
    have hk := keeps_iff zs m hml
    have hsl := List.pairwise_iff_getElem.1 hs
    by_cases hke : Lib.keeps zs.toArray m = true
    · rw [if_pos hke]
      refine ⟨List.pairwise_append.2 ⟨h1, by simp, ?_⟩, fun x => by rw [List.mem_append, h2, List.mem_append]⟩
      intro a ha b hb
      simp only [List.mem_singleton] at hb
      subst hb
      rw [h2, List.mem_take_iff_getElem] at ha
      obtain ⟨j, hj, rfl⟩ := ha
      have hj' : j < m := by omega
      have hle := hsl j m (by omega) hml hj'
      have hm1 : zs[m] ≠ zs[m - 1]'(by omega) := by
        rcases hk.1 hke with h | h
        · omega
        · exact h
      refine List.not_le.1 fun hge => hm1 ?_
      have hjm : zs[j] ≤ zs[m - 1]'(by omega) := by
        by_cases hjj : j = m - 1
        · subst hjj; exact List.le_refl _
        · exact hsl j (m - 1) (by omega) (by omega) (by omega)
      have hmm : zs[m - 1]'(by omega) ≤ zs[m] := hsl (m - 1) m (by omega) hml (by omega)
      exact List.le_antisymm (List.le_trans hge hjm) hmm
    · rw [if_neg hke, List.append_nil]
      refine ⟨h1, fun x => ?_⟩
      rw [h2]
      simp only [List.mem_append, List.mem_singleton]
      constructor
      · exact .inl
      · rintro (h | rfl)
        · exact h
        · have hn : ¬ (m = 0 ∨ zs[m] ≠ zs[m - 1]'(by omega)) := fun h => hke (hk.2 h)
          have hm0 : m ≠ 0 := fun h => hn (.inl h)
          have he : zs[m] = zs[m - 1]'(by omega) := Classical.byContradiction fun h => hn (.inr h)
          rw [he, List.mem_take_iff_getElem]
          exact ⟨m - 1, by omega, rfl⟩
theorem compact_mem {zs : List BL} (hs : zs.Pairwise (· ≤ ·)) : (Lib.compact zs).Pairwise (· < ·) ∧ ∀ x, x ∈ Lib.compact zs ↔ x ∈ zs := by
  have h := compact_up zs hs zs.length (Nat.le_refl _)
  rw [List.take_length] at h
  exact h
theorem sort_pw (L : List BL) : (sortS L).Pairwise (· ≤ ·) := by
  have h := List.pairwise_mergeSort (le := fun (x y : BL) => decide (x ≤ y)) (fun a b c h1 h2 => by
    simp only [decide_eq_true_eq] at h1 h2 ⊢
    exact List.le_trans h1 h2) (fun a b => by
    simp only [Bool.or_eq_true, decide_eq_true_eq]
    exact List.le_total a b) L
  exact h.imp (by simp)
theorem sort_mem (L : List BL) (x : BL) : x ∈ sortS L ↔ x ∈ L := List.mem_mergeSort
/-- Two lists in strict order that hold the same are the same. -/
theorem pw_uniq : ∀ (a b : List BL), a.Pairwise (· < ·) → b.Pairwise (· < ·) → (∀ x, x ∈ a ↔ x ∈ b) → a = b
  | [], [], _, _, _ => rfl
  | [], y :: b, _, _, h => by have := (h y).2 (by simp); simp at this
  | x :: a, [], _, _, h => by have := (h x).1 (by simp); simp at this
  | x :: a, y :: b, ha, hb, h => by
    rw [List.pairwise_cons] at ha hb
    have hxy : x = y := by
      have h1 : x ∈ y :: b := (h x).1 (by simp)
      have h2 : y ∈ x :: a := (h y).2 (by simp)
      simp only [List.mem_cons] at h1 h2
      rcases h1 with h1 | h1
      · exact h1
      · rcases h2 with h2 | h2
        · exact h2.symm
        · exact absurd (hb.1 x h1) (List.lt_asymm (ha.1 y h2))
    subst hxy
    congr 1
    refine pw_uniq a b ha.2 hb.2 fun z => ?_
    constructor
    · intro hz
      have h1 : z ∈ x :: b := (h z).1 (by simp [hz])
      simp only [List.mem_cons] at h1
      rcases h1 with rfl | h1
      · exact absurd (ha.1 z hz) (List.lt_irrefl z)
      · exact h1
    · intro hz
      have h1 : z ∈ x :: a := (h z).2 (by simp [hz])
      simp only [List.mem_cons] at h1
      rcases h1 with rfl | h1
      · exact absurd (hb.1 z hz) (List.lt_irrefl z)
      · exact h1
theorem varP_iff (x : BL) : varP x = true ↔ x ∈ V7 := by
  unfold varP
  split
  · rename_i c
    simp [isVar, V7]
  · rename_i h
    simp only [Bool.false_eq_true, false_iff]
    intro hx
    simp only [V7, List.mem_cons, List.not_mem_nil, or_false] at hx
    rcases hx with rfl | rfl | rfl | rfl | rfl | rfl | rfl <;> exact h _ rfl
theorem v7_pw : V7.Pairwise (· < ·) := by decide
theorem vars_both (z : BL) (hz : begM z = true) (body : List BL) : Lib.compact (sortS (body.filter varP)) = V7.filter fun v => (z :: body).contains v := by
  have h := compact_mem (sort_pw (body.filter varP))
  refine pw_uniq _ _ h.1 (v7_pw.filter _) fun x => ?_
  rw [h.2, sort_mem, List.mem_filter, List.mem_filter, varP_iff]
  have hzx : x ∈ V7 → x ≠ z := by
    intro hx he
    subst he
    simp only [V7, List.mem_cons, List.not_mem_nil, or_false] at hx
    rcases hx with rfl | rfl | rfl | rfl | rfl | rfl | rfl <;> cases hz
  simp only [List.contains_cons, Bool.or_eq_true, beq_iff_eq, List.contains_eq_mem, decide_eq_true_eq]
  constructor
  · rintro ⟨h1, h2⟩
    exact ⟨h2, List.mem_cons_of_mem _ h1⟩
  · rintro ⟨h1, h2⟩
    rcases List.mem_cons.1 h2 with h2 | h2
    · exact absurd h2 (hzx h1)
    · exact ⟨h2, h1⟩
theorem join_nil (l : List BL) : Lib.join l [] = l.flatten := by
  rw [Lib.join]
  induction l with
  | nil => rfl
  | cons x l ih =>
    cases l with
    | nil => simp [List.intercalate]
    | cons y l =>
      rw [List.intercalate_cons_cons, ih]
      simp
end
end Go.Proofs.YtegbkihgnofkfaaGreatDoor.Ev

/-
Code: the implementation's VarsAt, and the law.
-/
namespace Go.Proofs.YtegbkihgnofkfaaGreatDoor.Ev
section
set_option linter.unusedVariables false
set_option linter.unusedSimpArgs false
open Go Go.RowKit
set_option linter.unusedVariables false
set_option linter.unusedSimpArgs false
theorem strs_flat {E n : Nat} (l : List (List UInt8)) : flat (.o E 1 n (strs l)) = true := by
  show (strs l).all plain = true
  induction l with
  | nil => rfl
  | cons x l ih => simp [strs, plain]
/-- A call that is given a row and gives nothing. -/
theorem call0_wz {C : Sem1} {pf' : FuncId → Nat} {σ : Sto} {key : Nat} {f : FuncId} {id n E sz N' : Nat} {cs ys : List AV} (hσ : σ id = some (.row E sz N' cs)) (hp : pf' f = 0) (hl : cs.length = n * sz) (hc : closedL cs = true) (hy : closedL ys = true) (hr : C f (.s false n cs :: ys) = some (.s true 0 [])) :
    callOp C pf' σ key f (.w id 0 n :: ys) = some (.s true 0 [], frz σ 8 [id]) := by
  unfold callOp
  rw [if_neg (by omega), if_neg (by omega), if_neg (by omega)]
  have h1 : deep σ 8 (.w id 0 n) = some (.s false n cs, [id]) := by
    rw [deep_w 7 hσ (by omega) hc, List.drop_zero, List.take_of_length_le (by omega)]
  have h2 : deepC (deep σ 8) (.w id 0 n :: ys) = some (.s false n cs :: ys, [id]) := by
    simp only [deepC, h1, Option.bind_some, deepL_closed 8 hy, Option.map_some, List.append_nil]
  rw [h2]
  simp only [Option.bind_some, hr]
  rw [if_neg (by simp [flat, flat1])]
  rfl
/-- A call that is given a row and plain things and gives a flat answer. -/
theorem call0_wx {C : Sem1} {pf' : FuncId → Nat} {σ : Sto} {key : Nat} {f : FuncId} {id n E sz N' : Nat} {cs ys : List AV} {r : AV} (hσ : σ id = some (.row E sz N' cs)) (hp : pf' f = 0) (hl : cs.length = n * sz) (hc : closedL cs = true) (hy : closedL ys = true) (hr : C f (.s false n cs :: ys) = some r) (hf : flat r = true) :
    callOp C pf' σ key f (.w id 0 n :: ys) = adopt σ key r := by
  unfold callOp
  rw [if_neg (by omega), if_neg (by omega), if_neg (by omega)]
  have h1 : deep σ 8 (.w id 0 n) = some (.s false n cs, [id]) := by
    rw [deep_w 7 hσ (by omega) hc, List.drop_zero, List.take_of_length_le (by omega)]
  have h2 : deepC (deep σ 8) (.w id 0 n :: ys) = some (.s false n cs :: ys, [id]) := by
    simp only [deepC, h1, Option.bind_some, deepL_closed 8 hy, Option.map_some, List.append_nil]
  rw [h2]
  simp only [Option.bind_some, hr]
  rw [if_pos (.inr hf)]
theorem joinN_ev (ex : Bool) (l : List (List UInt8)) (h1 : l.length ≤ 140737488355328) (h2 : l.flatten.length ≤ 140737488355328) : EE 16 [.s ex l.length (strs l), S []] = some (S l.flatten) := by
  refine EE_hand ?_
  simp only [hand, handJ, unSL_strs, Option.bind_some, if_true, true_and]
  have hj : Lib.join l [] = l.flatten := join_nil l
  rw [if_pos ⟨h1, by simpa [hj] using h2⟩]
  exact congrArg (fun z => some (S z)) hj
theorem flat_ones : ∀ (K : List (List UInt8)), (∀ v ∈ K, v.length = 1) → K.flatten.length = K.length
  | [], _ => rfl
  | x :: K, h => by
    have h1 := h x (by simp)
    have h2 := flat_ones K fun v hv => h v (List.mem_cons_of_mem _ hv)
    simp only [List.flatten_cons, List.length_append, List.length_cons]
    omega
theorem T_implVarsAt : TT 5 = some (Tryz.f5, bodyOf Tryz.f5) := by kernel_rfl
theorem implVarsAt_ev (code : List UInt8) (i : Int) (hl : code.length < 50000000) (hi : (Lit.int .i64 i).wf = true) : EE 5 [S code, N i] = some (match (if (specB code).isSome = true then varsM (cutL 32 code) i else none) with | some o => .t [S o, B true] | none => .t [S [], B false]) := by
  refine EE_plain T_implVarsAt (by decide) (Nat.le_of_ble_eq_true rfl) rfl ?_
  rw [show opt 5 = [] from rfl]
  simp only [bodyOf, Tryz.f5, SA]
  have h := implInstructionsOf_ev code hl
  cases hs : specB code with
  | none =>
    rw [hs] at h
    simp only [Option.isSome_none, Bool.false_eq_true, if_false] at h ⊢
    by_cases h0 : i < 0
    · simp only [h, h0, RR, IA, PA, RA0, RA1, RA2, RA3, RA4, RA5, RA6, RA7, RA8, RA9, RA10, Nat.reduceAdd, Nat.reduceMul, Nat.reduceEqDiff, Nat.reduceLeDiff, Nat.reduceLT, Int.reduceToNat, Int.reduceLT, Int.reduceLE, Int.reduceEq, Int.reduceNeg, Int.reduceAdd, Int.reduceSub, Int.reduceMul, reduceIte]
    · have h1 : (0 : Int) ≤ i := by omega
      simp only [h, h0, h1, RR, IA, PA, RA0, RA1, RA2, RA3, RA4, RA5, RA6, RA7, RA8, RA9, RA10, Nat.reduceAdd, Nat.reduceMul, Nat.reduceEqDiff, Nat.reduceLeDiff, Nat.reduceLT, Int.reduceToNat, Int.reduceLT, Int.reduceLE, Int.reduceEq, Int.reduceNeg, Int.reduceAdd, Int.reduceSub, Int.reduceMul, reduceIte]
  | some w =>
    obtain ⟨t, hh, lv⟩ := w
    rw [hs] at h
    simp only [Option.isSome_some, if_true] at h ⊢
    obtain ⟨_, hw, hcl, hrun, _⟩ := spec_impl hs
    rw [← hcl] at hrun
    have hcll := cutL_len 32 code
    generalize cutL 32 code = L at h hrun hcll ⊢
    have hvm1 : (i < 0 ∨ (L.length : Int) ≤ i) → varsM L i = none := by
      intro hx
      unfold varsM
      by_cases h0 : i < 0
      · rw [if_pos h0]
      · rw [if_neg h0, List.drop_eq_nil_of_le (by omega)]
    by_cases h0 : i < 0
    · rw [hvm1 (.inl h0)]
      simp only [h, h0, strs_closed, RR, IA, PA, RA0, RA1, RA2, RA3, RA4, RA5, RA6, RA7, RA8, RA9, RA10, Nat.reduceAdd, Nat.reduceMul, Nat.reduceEqDiff, Nat.reduceLeDiff, Nat.reduceLT, Int.reduceToNat, Int.reduceLT, Int.reduceLE, Int.reduceEq, Int.reduceNeg, Int.reduceAdd, Int.reduceSub, Int.reduceMul, reduceIte]
    · obtain ⟨k, rfl⟩ := Int.eq_ofNat_of_zero_le (by omega : 0 ≤ i)
      by_cases hk : (L.length : Int) ≤ (k : Int)
      · rw [hvm1 (.inr hk)]
        simp only [h, h0, hk, strs_closed, RR, IA, PA, RA0, RA1, RA2, RA3, RA4, RA5, RA6, RA7, RA8, RA9, RA10, Nat.reduceAdd, Nat.reduceMul, Nat.reduceEqDiff, Nat.reduceLeDiff, Nat.reduceLT, Int.reduceToNat, Int.reduceLT, Int.reduceLE, Int.reduceEq, Int.reduceNeg, Int.reduceAdd, Int.reduceSub, Int.reduceMul, reduceIte]
      · obtain ⟨z, r, hd⟩ : ∃ z r, L.drop k = z :: r := by
          cases hd : L.drop k with
          | nil => have := congrArg List.length hd; simp at this; omega
          | cons z r => exact ⟨z, r, rfl⟩
        have hhd : ((strs L).drop k).head? = some (S z) := by rw [strs_drop, hd]; rfl
        have hz : (0 : Int) ≤ (k : Int) := by omega
        have hc : ((k : Int) < (L.length : Int)) := by omega
        have hbe := begins_ev z
        have hvm : varsM L (k : Int) = if begM z = true then some ((V7.filter fun v => (z :: r.take (clo 1 r)).contains v).flatten) else none := by
          unfold varsM
          rw [if_neg (by omega), Int.toNat_natCast, hd]
        rw [hvm]
        cases hb : begM z with
        | false =>
          rw [hb] at hbe
          simp only [h, h0, hk, hz, hc, hhd, hbe, strs_closed, Int.toNat_natCast, Nat.mul_one, Nat.zero_add, RR, IA, PA, RA0, RA1, RA2, RA3, RA4, RA5, RA6, RA7, RA8, RA9, RA10, Nat.reduceAdd, Nat.reduceMul, Nat.reduceEqDiff, Nat.reduceLeDiff, Nat.reduceLT, Int.reduceToNat, Int.reduceLT, Int.reduceLE, Int.reduceEq, Int.reduceNeg, Int.reduceAdd, Int.reduceSub, Int.reduceMul, reduceIte]
        | true =>
          rw [hb] at hbe
          obtain ⟨hclo, _⟩ := clo_ok hrun hd hb
          have hK := vars_both z hb (r.take (clo 1 r))
          obtain ⟨res, hv, hres⟩ := varsAt_ev false L (by omega) k z r hd hb hclo
          rw [hK] at hres
          have hKs : (V7.filter (fun v => (z :: r.take (clo 1 r)).contains v)).length ≤ 7 ∧ (V7.filter (fun v => (z :: r.take (clo 1 r)).contains v)).flatten.length ≤ 100 := by
            have h1 : (V7.filter (fun v => (z :: r.take (clo 1 r)).contains v)).Sublist V7 := List.filter_sublist
            have h2 := h1.length_le
            have h3 := flat_ones (V7.filter (fun v => (z :: r.take (clo 1 r)).contains v)) fun v hv => (by decide : ∀ v ∈ V7, v.length = 1) v (List.mem_filter.1 hv).1
            have e1 : V7.length = 7 := rfl
            exact ⟨by omega, by omega⟩
          generalize V7.filter (fun v => (z :: r.take (clo 1 r)).contains v) = K at hres hKs ⊢
          simp only [h, h0, hk, hz, hc, hhd, hbe, strs_closed, Int.toNat_natCast, Nat.mul_one, Nat.zero_add, RR, IA, PA, RA0, RA1, RA2, RA3, RA4, RA5, RA6, RA7, RA8, RA9, RA10, Nat.reduceAdd, Nat.reduceMul, Nat.reduceEqDiff, Nat.reduceLeDiff, Nat.reduceLT, Int.reduceToNat, Int.reduceLT, Int.reduceLE, Int.reduceEq, Int.reduceNeg, Int.reduceAdd, Int.reduceSub, Int.reduceMul, reduceIte]
          rcases hres with rfl | ⟨rfl, rfl⟩
          · have hj := joinN_ev false K (by omega) (by omega)
            rw [call0_wx (E := 9) (sz := 1) (cs := strs L) (by rfl) (by rfl) (by rw [strs_len, Nat.mul_one]) (strs_closed _) (by rfl) (by exact hv) (strs_flat _)]
            simp only [RR, IA, PA, RA0, RA1, RA2, RA3, RA4, RA5, RA6, RA7, RA8, RA9, RA10, Nat.reduceAdd, Nat.reduceMul, Nat.reduceEqDiff, Nat.reduceLeDiff, Nat.reduceLT, Int.reduceToNat, Int.reduceLT, Int.reduceLE, Int.reduceEq, Int.reduceNeg, Int.reduceAdd, Int.reduceSub, Int.reduceMul, reduceIte]
            rw [call0_w (E := 9) (sz := 1) (N' := K.length) (cs := strs K) (by simp only [upd, if_true]) (by rfl) (by rw [strs_len, Nat.mul_one]) (strs_closed _) (by rfl) (by exact hj)]
            simp only [RR, IA, PA, RA0, RA1, RA2, RA3, RA4, RA5, RA6, RA7, RA8, RA9, RA10, Nat.reduceAdd, Nat.reduceMul, Nat.reduceEqDiff, Nat.reduceLeDiff, Nat.reduceLT, Int.reduceToNat, Int.reduceLT, Int.reduceLE, Int.reduceEq, Int.reduceNeg, Int.reduceAdd, Int.reduceSub, Int.reduceMul, reduceIte]
          · have hj := joinN_ev true [] (by decide) (by decide)
            have hj0 : EE 16 [.s true 0 [], S []] = some (S []) := hj
            rw [call0_wz (E := 9) (sz := 1) (cs := strs L) (by rfl) (by rfl) (by rw [strs_len, Nat.mul_one]) (strs_closed _) (by rfl) (by exact hv)]
            simp only [RR, IA, PA, RA0, RA1, RA2, RA3, RA4, RA5, RA6, RA7, RA8, RA9, RA10, Nat.reduceAdd, Nat.reduceMul, Nat.reduceEqDiff, Nat.reduceLeDiff, Nat.reduceLT, Int.reduceToNat, Int.reduceLT, Int.reduceLE, Int.reduceEq, Int.reduceNeg, Int.reduceAdd, Int.reduceSub, Int.reduceMul, reduceIte]
            simp only [hj0, RR, IA, PA, RA0, RA1, RA2, RA3, RA4, RA5, RA6, RA7, RA8, RA9, RA10, Nat.reduceAdd, Nat.reduceMul, Nat.reduceEqDiff, Nat.reduceLeDiff, Nat.reduceLT, Int.reduceToNat, Int.reduceLT, Int.reduceLE, Int.reduceEq, Int.reduceNeg, Int.reduceAdd, Int.reduceSub, Int.reduceMul, reduceIte]
            rfl
end
end Go.Proofs.YtegbkihgnofkfaaGreatDoor.Ev
