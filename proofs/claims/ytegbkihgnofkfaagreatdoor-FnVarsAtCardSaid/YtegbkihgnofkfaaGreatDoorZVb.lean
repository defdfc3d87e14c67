/-
Texts Vb to Vb of the work.
-/
import Derived.Test.YtegbkihgnofkfaaGreatDoorZVa
/-
Code: the implementation's builder in plain words; both build the same.
-/
namespace Go.Proofs.YtegbkihgnofkfaaGreatDoor.Ev
section
set_option linter.unusedVariables false
set_option linter.unusedSimpArgs false
open Go Go.RowKit
set_option linter.unusedVariables false
set_option linter.unusedSimpArgs false

/-- A term of one byte. -/
def leafI (a : UInt8) : T := if isDig a = true then .dig a else .var a
/-- An instruction of the implementation's: terms and loops, the last ones first. -/
def doI (s : List UInt8) (st : List T) (op : List (UInt8 × UInt8)) : Option (List T × List (UInt8 × UInt8)) :=
  match s with
  | [a] =>
    if a = 93 ∨ a = 125 then (match op with
      | [] => none
      | (c, v) :: op' => (match st with
        | y :: x :: st' => some (.loop c v x y :: st', op')
        | _ => none))
    else if isOne a = true then (match st with
      | x :: st' => some (.one a x :: st', op)
      | _ => none)
    else if isTwo a = true then (match st with
      | y :: x :: st' => some (.two a x y :: st', op)
      | _ => none)
    else some (leafI a :: st, op)
  | [a, v] => if a = 91 ∨ a = 123 then some (st, (a, v) :: op) else none
  | _ => none
def runI : List (List UInt8) → List T → List (UInt8 × UInt8) → Option (List T × List (UInt8 × UInt8))
  | [], st, op => some (st, op)
  | s :: l, st, op => match doI s st op with
    | some (st', op') => runI l st' op'
    | none => none
def codeT (t : List UInt8) : Option (List UInt8) := (rdT t).map fun u => joinS (listT u)
def implB (code : List UInt8) : Option T :=
  if 200 < code.length then none else
  match runI (cutL 32 code) [] [] with
  | some ([t], []) => if codeT (textT t) = some code then some t else none
  | _ => none
/-! ### what it builds -/
def szT (st : List T) : Nat := (st.map fun t => (textT t).length).sum
theorem szT_cons (x : T) (st : List T) : szT (x :: st) = (textT x).length + szT st := by simp [szT]
theorem doI_sz {s : List UInt8} {st st' : List T} {op op' : List (UInt8 × UInt8)} (h : doI s st op = some (st', op')) : szT st' ≤ szT st + 5 := by
  unfold doI at h
  split at h
  · rename_i a
    split at h
    · split at h
      · cases h
      · rename_i c v op1
        split at h
        · rename_i y x st1
          simp only [Option.some.injEq, Prod.mk.injEq] at h
          obtain ⟨rfl, rfl⟩ := h
          simp only [szT_cons, textT, List.length_cons, List.length_append, List.length_nil]
          omega
        · cases h
    split at h
    · split at h
      · rename_i x st1
        simp only [Option.some.injEq, Prod.mk.injEq] at h
        obtain ⟨rfl, rfl⟩ := h
        simp only [szT_cons, textT, List.length_cons, List.length_append, List.length_nil]
        omega
      · cases h
    split at h
    · split at h
      · rename_i y x st1
        simp only [Option.some.injEq, Prod.mk.injEq] at h
        obtain ⟨rfl, rfl⟩ := h
        simp only [szT_cons, textT, List.length_cons, List.length_append, List.length_nil]
        omega
      · cases h
    · simp only [Option.some.injEq, Prod.mk.injEq] at h
      obtain ⟨rfl, rfl⟩ := h
      have : (textT (leafI a)).length = 1 := by unfold leafI; split <;> rfl
      simp only [szT_cons]
      omega
  · rename_i a v
    split at h
    · simp only [Option.some.injEq, Prod.mk.injEq] at h
      obtain ⟨rfl, rfl⟩ := h
      omega
    · cases h
  · cases h
theorem runI_sz : ∀ {l : List (List UInt8)} {st st' : List T} {op op' : List (UInt8 × UInt8)}, runI l st op = some (st', op') → szT st' ≤ szT st + 5 * l.length
  | [], st, st', op, op', h => by
    simp only [runI, Option.some.injEq, Prod.mk.injEq] at h
    obtain ⟨rfl, rfl⟩ := h
    simp
  | s :: l, st, st', op, op', h => by
    simp only [runI] at h
    split at h
    · rename_i st1 op1 h1
      have := runI_sz h
      have := doI_sz h1
      simp only [List.length_cons]
      omega
    · cases h
def OpOk (op : List (UInt8 × UInt8)) : Prop := ∀ q ∈ op, q.1 = 91 ∨ q.1 = 123
theorem doI_l {s : List UInt8} {st st' : List T} {op op' : List (UInt8 × UInt8)} (h : doI s st op = some (st', op')) (h1 : ∀ t ∈ st, WFL t) (h2 : OpOk op) : (∀ t ∈ st', WFL t) ∧ OpOk op' := by
  unfold doI at h
  split at h
  · rename_i a
    split at h
    · split at h
      · cases h
      · rename_i c v op1
        split at h
        · rename_i y x st1
          simp only [Option.some.injEq, Prod.mk.injEq] at h
          obtain ⟨rfl, rfl⟩ := h
          refine ⟨fun t ht => ?_, fun q hq => h2 q (by simp [hq])⟩
          rcases List.mem_cons.1 ht with rfl | ht
          · exact ⟨h2 (c, v) (by simp), h1 x (by simp), h1 y (by simp)⟩
          · exact h1 t (by simp [ht])
        · cases h
    split at h
    · split at h
      · rename_i x st1
        simp only [Option.some.injEq, Prod.mk.injEq] at h
        obtain ⟨rfl, rfl⟩ := h
        refine ⟨fun t ht => ?_, h2⟩
        rcases List.mem_cons.1 ht with rfl | ht
        · exact h1 x (by simp)
        · exact h1 t (by simp [ht])
      · cases h
    split at h
    · split at h
      · rename_i y x st1
        simp only [Option.some.injEq, Prod.mk.injEq] at h
        obtain ⟨rfl, rfl⟩ := h
        refine ⟨fun t ht => ?_, h2⟩
        rcases List.mem_cons.1 ht with rfl | ht
        · exact ⟨h1 x (by simp), h1 y (by simp)⟩
        · exact h1 t (by simp [ht])
      · cases h
    · simp only [Option.some.injEq, Prod.mk.injEq] at h
      obtain ⟨rfl, rfl⟩ := h
      refine ⟨fun t ht => ?_, h2⟩
      rcases List.mem_cons.1 ht with rfl | ht
      · unfold leafI
        split <;> exact trivial
      · exact h1 t ht
  · rename_i a v
    split at h
    · rename_i hc
      simp only [Option.some.injEq, Prod.mk.injEq] at h
      obtain ⟨rfl, rfl⟩ := h
      refine ⟨h1, fun q hq => ?_⟩
      rcases List.mem_cons.1 hq with rfl | hq
      · exact hc
      · exact h2 q hq
    · cases h
  · cases h
theorem runI_l : ∀ {l : List (List UInt8)} {st st' : List T} {op op' : List (UInt8 × UInt8)}, runI l st op = some (st', op') → (∀ t ∈ st, WFL t) → OpOk op → (∀ t ∈ st', WFL t) ∧ OpOk op'
  | [], st, st', op, op', h, h1, h2 => by
    simp only [runI, Option.some.injEq, Prod.mk.injEq] at h
    obtain ⟨rfl, rfl⟩ := h
    exact ⟨h1, h2⟩
  | s :: l, st, st', op, op', h, h1, h2 => by
    simp only [runI] at h
    split at h
    · rename_i st1 op1 h3
      obtain ⟨k1, k2⟩ := doI_l h3 h1 h2
      exact runI_l h k1 k2
    · cases h
/-! ### the code of a term gives it -/
theorem runI_app : ∀ {l r : List (List UInt8)} {st st1 : List T} {op op1 : List (UInt8 × UInt8)}, runI l st op = some (st1, op1) → runI (l ++ r) st op = runI r st1 op1
  | [], r, st, st1, op, op1, h => by
    simp only [runI, Option.some.injEq, Prod.mk.injEq] at h
    obtain ⟨rfl, rfl⟩ := h
    rfl
  | s :: l, r, st, st1, op, op1, h => by
    simp only [runI] at h
    rw [List.cons_append, runI]
    split at h
    · exact runI_app h
    · cases h
theorem end_not {a : UInt8} (h : a = 93 ∨ a = 125) : isOne a = false ∧ isTwo a = false ∧ isDig a = false ∧ isVar a = false := by rcases h with rfl | rfl <;> exact ⟨rfl, rfl, rfl, rfl⟩
theorem not_end {a : UInt8} (h : isOne a = true ∨ isTwo a = true ∨ isDig a = true ∨ isVar a = true) : ¬ (a = 93 ∨ a = 125) := by
  intro k
  have := end_not k
  simp [this] at h
theorem dig_not_one {a : UInt8} (h : isDig a = true) : isOne a = false ∧ isTwo a = false := by
  constructor
  · cases hx : isOne a
    · rfl
    · have := (one_not hx).2; rw [h] at this; cases this
  · cases hx : isTwo a
    · rfl
    · have := (two_not hx).2.1; rw [h] at this; cases this
theorem var_not_one {a : UInt8} (h : isVar a = true) : isOne a = false ∧ isTwo a = false := by
  constructor
  · cases hx : isOne a
    · rfl
    · have := (one_not hx).1; rw [h] at this; cases this
  · cases hx : isTwo a
    · rfl
    · have := (two_not hx).1; rw [h] at this; cases this
theorem runI_list : ∀ (t : T), WF t → ∀ (st : List T) (op : List (UInt8 × UInt8)), runI (listT t) st op = some (t :: st, op) := by
  intro t
  induction t with
  | dig c =>
    intro hw st op
    have hw : isDig c = true := hw
    have h1 := dig_not_one hw
    have h2 := not_end (.inr (.inr (.inl hw)))
    simp only [listT, runI, doI, if_neg h2, h1.1, h1.2, leafI, hw]
    rfl
  | var c =>
    intro hw st op
    have hw : isVar c = true := hw
    have h1 := var_not_one hw
    have h2 := not_end (.inr (.inr (.inr hw)))
    simp only [listT, runI, doI, if_neg h2, h1.1, h1.2, leafI, var_not hw]
    rfl
  | one s x ih =>
    intro hw st op
    have h2 := not_end (.inl hw.1)
    rw [listT, runI_app (ih hw.2 st op)]
    simp only [runI, doI, if_neg h2, hw.1, if_true]
  | two s x y ihx ihy =>
    intro hw st op
    have h2 := not_end (.inr (.inl hw.1))
    have h1 := (two_not hw.1).2.2
    rw [listT, List.append_assoc, runI_app (ihx hw.2.1 st op), runI_app (ihy hw.2.2 _ op)]
    simp only [runI, doI, if_neg h2, hw.1, h1, if_true]
    rfl
  | loop s v x y ihx ihy =>
    intro hw st op
    have e1 : runI [[s, v]] (x :: st) op = some (x :: st, (s, v) :: op) := by
      simp only [runI, doI, if_pos hw.1]
    have h2 : s + 2 = 93 ∨ s + 2 = 125 := by rcases hw.1 with rfl | rfl <;> decide
    rw [listT, List.append_assoc, List.append_assoc, runI_app (ihx hw.2.2.1 st op), runI_app e1, runI_app (ihy hw.2.2.2 _ _)]
    simp only [runI, doI, if_pos h2]
/-! ### both build the same -/
theorem cutL_len (c : UInt8) (l : List UInt8) : (cutL c l).length ≤ l.length + 1 := by
  rw [cutL, cutF_len]
  have := List.count_le_length (a := c) (l := l)
  omega
theorem spec_impl {code : List UInt8} {t : T} {hs ls : List Nat} (h : specB code = some (t, hs, ls)) : implB code = some t ∧ WF t ∧ cutL 32 code = listT t ∧ runP (listT t) ⟨[], []⟩ = some (⟨[t], []⟩, hs, ls) ∧ rdT (textT t) = some t := by
  unfold specB at h
  split at h
  · cases h
  · rename_i hl
    split at h
    · rename_i t' hs' ls' hr
      split at h
      · rename_i h80
        simp only [Option.some.injEq, Prod.mk.injEq] at h
        obtain ⟨rfl, rfl, rfl⟩ := h
        obtain ⟨hw, hc⟩ := runP_back hr
        have hrd := rdT_of hw h80
        have e : joinS (listT t') = code := by rw [hc, join_cut]
        refine ⟨?_, hw, hc.symm, by rw [hc]; exact hr, hrd⟩
        unfold implB
        rw [if_neg hl, ← hc, runI_list t' hw]
        simp only [codeT, hrd, Option.map_some, e, if_true]
      · cases h
    · cases h
theorem impl_spec {code : List UInt8} {t : T} (h : implB code = some t) : ∃ hs ls, specB code = some (t, hs, ls) := by
  unfold implB at h
  split at h
  · cases h
  · rename_i hl
    split at h
    · rename_i t' hr
      split at h
      · rename_i hc
        obtain rfl := Option.some.inj h
        unfold codeT at hc
        cases hrd : rdT (textT t') with
        | none => rw [hrd] at hc; cases hc
        | some u =>
          rw [hrd] at hc
          simp only [Option.map_some, Option.some.injEq] at hc
          obtain ⟨hw, h1, h2⟩ := rdT_wf hrd
          have e1 : cutL 32 code = listT u := by rw [← hc, cut_list hw]
          rw [e1, runI_list u hw] at hr
          simp only [Option.some.injEq, Prod.mk.injEq, List.cons.injEq, and_true] at hr
          subst hr
          obtain ⟨hs, ls, h3⟩ := runP_list u hw ⟨[], []⟩ (Nat.le_refl _)
          refine ⟨hs, ls, ?_⟩
          unfold specB
          rw [if_neg hl, e1, h3]
          simp only
          rw [if_pos h2]
      · cases h
    · cases h
theorem impl_eq (code : List UInt8) : implB code = (specB code).map (·.1) := by
  cases h : specB code with
  | none =>
    cases k : implB code with
    | none => rfl
    | some t =>
      obtain ⟨hs, ls, e⟩ := impl_spec k
      rw [h] at e; cases e
  | some q =>
    obtain ⟨t, hs, ls⟩ := q
    exact (spec_impl h).1
end
end Go.Proofs.YtegbkihgnofkfaaGreatDoor.Ev
