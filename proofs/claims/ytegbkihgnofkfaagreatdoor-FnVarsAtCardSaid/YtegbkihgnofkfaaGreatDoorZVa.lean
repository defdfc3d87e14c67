/-
Texts Va to Va of the work.
-/
import Derived.Test.YtegbkihgnofkfaaGreatDoorZUa
/-
Code: the builders, in plain words.
-/
namespace Go.Proofs.YtegbkihgnofkfaaGreatDoor.Ev
section
set_option linter.unusedVariables false
set_option linter.unusedSimpArgs false
open Go Go.RowKit
set_option linter.unusedVariables false
set_option linter.unusedSimpArgs false

/-- Terms, the last one first; loops (sign, variable, how many terms there were), the last one first. -/
structure PS where
  st : List T
  lp : List (UInt8 × UInt8 × Nat)
def baseP : List (UInt8 × UInt8 × Nat) → Nat
  | [] => 0
  | (_, _, b) :: _ => b
/-- The last term, if there is one. -/
def popP (st : List T) (base : Nat) : Option (T × List T) :=
  match st with
  | [] => none
  | x :: r => if (x :: r).length ≤ base then none else some (x, r)
def endP (a : UInt8) (p : PS) : Option PS :=
  match p.lp with
  | [] => none
  | (c, v, b) :: lp =>
    if c + 2 = a ∧ p.st.length = b + 1 then
      (match popP p.st b with
      | some (y, s1) => (match popP s1 (baseP lp) with
        | some (x, s2) => some ⟨.loop c v x y :: s2, lp⟩
        | none => none)
      | none => none)
    else none
/-- An instruction of the reference's. -/
def doP (s : List UInt8) (p : PS) : Option PS :=
  match s with
  | [a] =>
    if isDig a = true then some ⟨.dig a :: p.st, p.lp⟩
    else if isVar a = true then some ⟨.var a :: p.st, p.lp⟩
    else if isOne a = true then (match popP p.st (baseP p.lp) with
      | some (x, s1) => some ⟨.one a x :: s1, p.lp⟩
      | none => none)
    else if isTwo a = true then (match popP p.st (baseP p.lp) with
      | some (y, s1) => (match popP s1 (baseP p.lp) with
        | some (x, s2) => some ⟨.two a x y :: s2, p.lp⟩
        | none => none)
      | none => none)
    else if a = 93 ∨ a = 125 then endP a p
    else none
  | [a, v] => if (a = 91 ∨ a = 123) ∧ isLV v = true then (if baseP p.lp < p.st.length then some ⟨p.st, (a, v, p.st.length) :: p.lp⟩ else none) else none
  | _ => none
/-- All of them, with heights and levels. -/
def runP : List (List UInt8) → PS → Option (PS × List Nat × List Nat)
  | [], p => some (p, [], [])
  | s :: l, p => match doP s p with
    | some p' => (match runP l p' with
      | some (q, hs, ls) => some (q, p'.st.length :: hs, min p.lp.length p'.lp.length :: ls)
      | none => none)
    | none => none
def specB (code : List UInt8) : Option (T × List Nat × List Nat) :=
  if 200 < code.length then none else
  match runP (cutL 32 code) ⟨[], []⟩ with
  | some (⟨[t], []⟩, hs, ls) => if (textT t).length ≤ 80 then some (t, hs, ls) else none
  | _ => none

/-! ### what the reference's builder built -/
def allT (st : List T) : List (List UInt8) := (st.reverse).flatMap listT
theorem allT_cons (x : T) (st : List T) : allT (x :: st) = allT st ++ listT x := by simp [allT]
/-- The code of a state. -/
def codeP : List T → List (UInt8 × UInt8 × Nat) → List (List UInt8)
  | st, [] => allT st
  | st, (c, v, b) :: lp => codeP (st.drop (st.length - b)) lp ++ [[c, v]] ++ allT (st.take (st.length - b))
theorem codeP_push (x : T) (st : List T) (lp : List (UInt8 × UInt8 × Nat)) (h : baseP lp ≤ st.length) : codeP (x :: st) lp = codeP st lp ++ listT x := by
  cases lp with
  | nil => simp [codeP, allT_cons]
  | cons q lp =>
    obtain ⟨c, v, b⟩ := q
    simp only [baseP] at h
    have e : (x :: st).length - b = (st.length - b) + 1 := by simp only [List.length_cons]; omega
    simp only [codeP, e, List.drop_succ_cons, List.take_succ_cons, allT_cons, List.append_assoc]
/-- Signs of loops as they are; each begins behind the one before. -/
def InvL : List (UInt8 × UInt8 × Nat) → Prop
  | [] => True
  | (c, v, b) :: lp => ((c = 91 ∨ c = 123) ∧ isLV v = true) ∧ baseP lp < b ∧ InvL lp
structure InvP (p : PS) : Prop where
  hb : baseP p.lp ≤ p.st.length
  hl : InvL p.lp
  hw : ∀ t ∈ p.st, WF t
theorem popP_some {st : List T} {b : Nat} {x : T} {r : List T} (h : popP st b = some (x, r)) : st = x :: r ∧ b ≤ r.length := by
  cases st with
  | nil => cases h
  | cons y s =>
    simp only [popP] at h
    split at h
    · cases h
    · rename_i hb
      simp only [Option.some.injEq, Prod.mk.injEq] at h
      obtain ⟨rfl, rfl⟩ := h
      simp only [List.length_cons] at hb
      exact ⟨rfl, by omega⟩
theorem popP_mk {x : T} {r : List T} {b : Nat} (h : b ≤ r.length) : popP (x :: r) b = some (x, r) := by
  simp only [popP, List.length_cons]
  rw [if_neg (by omega)]
theorem doP_code {s : List UInt8} {p p' : PS} (h : doP s p = some p') (hp : InvP p) : InvP p' ∧ codeP p'.st p'.lp = codeP p.st p.lp ++ [s] := by
  obtain ⟨st, lp⟩ := p
  obtain ⟨hb, hl, hw⟩ := hp
  simp only at hb hl hw
  unfold doP at h
  split at h
  · rename_i a
    split at h
    · rename_i hd
      obtain rfl := Option.some.inj h
      refine ⟨⟨by simp only [List.length_cons]; omega, hl, ?_⟩, codeP_push _ _ _ hb⟩
      intro t ht
      rcases List.mem_cons.1 ht with rfl | ht
      · exact hd
      · exact hw t ht
    split at h
    · rename_i hd
      obtain rfl := Option.some.inj h
      refine ⟨⟨by simp only [List.length_cons]; omega, hl, ?_⟩, codeP_push _ _ _ hb⟩
      intro t ht
      rcases List.mem_cons.1 ht with rfl | ht
      · exact hd
      · exact hw t ht
    split at h
    · rename_i hd
      split at h
      · rename_i x s1 h1
        obtain rfl := Option.some.inj h
        obtain ⟨h2, hb1⟩ := popP_some h1
        simp only at h2 hb1
        subst h2
        refine ⟨⟨by simp only [List.length_cons]; omega, hl, ?_⟩, ?_⟩
        · intro t ht
          rcases List.mem_cons.1 ht with rfl | ht
          · exact ⟨hd, hw x (by simp)⟩
          · exact hw t (by simp [ht])
        · simp only
          rw [codeP_push _ _ _ hb1, codeP_push _ _ _ hb1]
          simp [listT]
      · cases h
    split at h
    · rename_i hd
      split at h
      · rename_i y s1 h1
        split at h
        · rename_i x s2 h3
          obtain rfl := Option.some.inj h
          obtain ⟨h2, hb1⟩ := popP_some h1
          obtain ⟨h4, hb2⟩ := popP_some h3
          simp only at h2 hb1 h4 hb2
          subst h4
          subst h2
          refine ⟨⟨by simp only [List.length_cons]; omega, hl, ?_⟩, ?_⟩
          · intro t ht
            rcases List.mem_cons.1 ht with rfl | ht
            · exact ⟨hd, hw x (by simp), hw y (by simp)⟩
            · exact hw t (by simp [ht])
          · simp only
            rw [codeP_push _ _ _ hb1, codeP_push _ _ _ hb2, codeP_push _ _ _ hb2]
            simp [listT]
        · cases h
      · cases h
    split at h
    · rename_i he
      cases lp with
      | nil => cases h
      | cons q lp =>
        obtain ⟨c, v, b⟩ := q
        simp only [endP] at h
        simp only [InvL] at hl
        split at h
        · rename_i hc
          split at h
          · rename_i y s1 h1
            split at h
            · rename_i x s2 h3
              obtain rfl := Option.some.inj h
              obtain ⟨h2, hb1⟩ := popP_some h1
              obtain ⟨h4, hb2⟩ := popP_some h3
              subst h4
              subst h2
              have hlen : s2.length + 1 = b := by have := hc.2; simp only [List.length_cons] at this; omega
              refine ⟨⟨by simp only [List.length_cons]; omega, hl.2.2, ?_⟩, ?_⟩
              · intro t ht
                rcases List.mem_cons.1 ht with rfl | ht
                · exact ⟨hl.1.1, hl.1.2, hw x (by simp), hw y (by simp)⟩
                · exact hw t (by simp [ht])
              · simp only
                rw [codeP_push _ _ _ hb2, codeP]
                have e : (y :: x :: s2).length - b = 1 := by simp only [List.length_cons]; omega
                rw [e]
                simp only [List.drop_succ_cons, List.drop_zero, List.take_succ_cons, List.take_zero]
                rw [codeP_push _ _ _ hb2, ← hc.1]
                simp [listT, allT]
            · cases h
          · cases h
        · cases h
    · cases h
  · rename_i a v
    split at h
    · rename_i hc
      split at h
      · rename_i hlt
        obtain rfl := Option.some.inj h
        refine ⟨⟨Nat.le_refl _, ⟨hc, hlt, hl⟩, hw⟩, ?_⟩
        simp [codeP, allT]
      · cases h
    · cases h
  · cases h
theorem runP_code : ∀ {l : List (List UInt8)} {p q : PS} {hs ls : List Nat}, runP l p = some (q, hs, ls) → InvP p → InvP q ∧ codeP q.st q.lp = codeP p.st p.lp ++ l
  | [], p, q, hs, ls, h, hp => by
    simp only [runP, Option.some.injEq, Prod.mk.injEq] at h
    obtain ⟨rfl, _, _⟩ := h
    exact ⟨hp, by simp⟩
  | s :: l, p, q, hs, ls, h, hp => by
    simp only [runP] at h
    split at h
    · rename_i p' h1
      split at h
      · rename_i q' hs' ls' h2
        simp only [Option.some.injEq, Prod.mk.injEq] at h
        obtain ⟨rfl, _, _⟩ := h
        obtain ⟨k1, k2⟩ := doP_code h1 hp
        obtain ⟨k3, k4⟩ := runP_code h2 k1
        exact ⟨k3, by rw [k4, k2]; simp⟩
      · cases h
    · cases h
theorem runP_back {l : List (List UInt8)} {t : T} {hs ls : List Nat} (h : runP l ⟨[], []⟩ = some (⟨[t], []⟩, hs, ls)) : WF t ∧ listT t = l := by
  obtain ⟨h1, h2⟩ := runP_code h ⟨Nat.le_refl _, trivial, fun t h => absurd h List.not_mem_nil⟩
  refine ⟨h1.hw t (by simp), ?_⟩
  simpa [codeP, allT] using h2

/-! ### the code of a term gives it again -/
theorem runP_app {l r : List (List UInt8)} {p p1 q : PS} {hs ls hs' ls' : List Nat} (h : runP l p = some (p1, hs, ls)) (h2 : runP r p1 = some (q, hs', ls')) : runP (l ++ r) p = some (q, hs ++ hs', ls ++ ls') := by
  induction l generalizing p hs ls with
  | nil =>
    simp only [runP, Option.some.injEq, Prod.mk.injEq] at h
    obtain ⟨rfl, rfl, rfl⟩ := h
    simpa using h2
  | cons s l ih =>
    simp only [runP] at h
    split at h
    · rename_i p' h1
      split at h
      · rename_i q' hs1 ls1 h3
        simp only [Option.some.injEq, Prod.mk.injEq] at h
        obtain ⟨rfl, rfl, rfl⟩ := h
        rw [List.cons_append, runP, h1]
        simp only
        rw [ih h3]
        rfl
      · cases h
    · cases h
theorem runP_one {s : List UInt8} {p p' : PS} (h : doP s p = some p') : ∃ hs ls, runP [s] p = some (p', hs, ls) := by
  refine ⟨[p'.st.length], [min p.lp.length p'.lp.length], ?_⟩
  simp [runP, h]
theorem two_not {c : UInt8} (h : isTwo c = true) : isVar c = false ∧ isDig c = false ∧ isOne c = false := by
  have h2 : c = 43 ∨ c = 42 ∨ c = 94 ∨ c = 45 ∨ c = 61 ∨ c = 60 ∨ c = 64 := by simpa [isTwo] using h
  rcases h2 with rfl | rfl | rfl | rfl | rfl | rfl | rfl <;> exact ⟨rfl, rfl, rfl⟩
theorem var_not {c : UInt8} (h : isVar c = true) : isDig c = false := by
  cases hd : isDig c
  · rfl
  · rw [dig_not_var hd] at h; cases h
theorem runP_list : ∀ (t : T), WF t → ∀ (p : PS), baseP p.lp ≤ p.st.length → ∃ hs ls, runP (listT t) p = some (⟨t :: p.st, p.lp⟩, hs, ls) := by
  intro t
  induction t with
  | dig c =>
    intro hw p hb
    have hw : isDig c = true := hw
    exact runP_one (by simp [doP, hw])
  | var c =>
    intro hw p hb
    have hw : isVar c = true := hw
    exact runP_one (by simp [doP, hw, var_not hw])
  | one s x ih =>
    intro hw p hb
    obtain ⟨h1, l1, e1⟩ := ih hw.2 p hb
    have hd := one_not hw.1
    obtain ⟨h2, l2, e2⟩ := runP_one (s := [s]) (p := ⟨x :: p.st, p.lp⟩) (p' := ⟨.one s x :: p.st, p.lp⟩) (by simp [doP, hd.1, hd.2, hw.1, popP_mk hb])
    exact ⟨_, _, runP_app e1 e2⟩
  | two s x y ihx ihy =>
    intro hw p hb
    obtain ⟨h1, l1, e1⟩ := ihx hw.2.1 p hb
    obtain ⟨h2, l2, e2⟩ := ihy hw.2.2 ⟨x :: p.st, p.lp⟩ (by simp only [List.length_cons]; omega)
    have hd := two_not hw.1
    have hb1 : baseP p.lp ≤ (x :: p.st).length := by simp only [List.length_cons]; omega
    obtain ⟨h3, l3, e3⟩ := runP_one (s := [s]) (p := ⟨y :: x :: p.st, p.lp⟩) (p' := ⟨.two s x y :: p.st, p.lp⟩) (by simp [doP, hd.1, hd.2.1, hd.2.2, hw.1, popP_mk hb, popP_mk hb1])
    exact ⟨_, _, runP_app (runP_app e1 e2) e3⟩
  | loop s v x y ihx ihy =>
    intro hw p hb
    obtain ⟨h1, l1, e1⟩ := ihx hw.2.2.1 p hb
    have hlt : baseP p.lp < (x :: p.st).length := by simp only [List.length_cons]; omega
    obtain ⟨h2, l2, e2⟩ := runP_one (s := [s, v]) (p := ⟨x :: p.st, p.lp⟩) (p' := ⟨x :: p.st, (s, v, (x :: p.st).length) :: p.lp⟩) (by
      simp only [doP]
      rw [if_pos ⟨hw.1, hw.2.1⟩, if_pos hlt])
    obtain ⟨h3, l3, e3⟩ := ihy hw.2.2.2 ⟨x :: p.st, (s, v, (x :: p.st).length) :: p.lp⟩ (Nat.le_refl _)
    obtain ⟨h4, l4, e4⟩ := runP_one (s := [s + 2]) (p := ⟨y :: x :: p.st, (s, v, (x :: p.st).length) :: p.lp⟩) (p' := ⟨.loop s v x y :: p.st, p.lp⟩) (by
      have e5 : endP (s + 2) ⟨y :: x :: p.st, (s, v, (x :: p.st).length) :: p.lp⟩ = some ⟨.loop s v x y :: p.st, p.lp⟩ := by
        simp only [endP]
        rw [if_pos ⟨trivial, rfl⟩, popP_mk (Nat.le_refl _)]
        simp only [popP_mk hb]
      rcases hw.1 with rfl | rfl
      · simpa [doP, isDig, isVar, isOne, isTwo] using e5
      · simpa [doP, isDig, isVar, isOne, isTwo] using e5)
    exact ⟨_, _, runP_app (runP_app (runP_app e1 e2) e3) e4⟩
/-! ### lists and texts -/
theorem cutF_join (c : UInt8) : ∀ (l cur : List UInt8), Lib.join (cutF c cur l) [c] = cur ++ l
  | [], cur => by simp [cutF, Lib.join_cons, Lib.joinTail]
  | x :: l, cur => by
    rw [cutF]
    by_cases h : x = c
    · subst h
      rw [if_pos rfl, Lib.join_cons]
      have := cutF_join x l []
      obtain ⟨a, t, e⟩ := cutL_cons x l
      simp only [cutL] at e
      rw [e] at this ⊢
      simp only [Lib.join_cons] at this
      have e2 : Lib.joinTail [x] (a :: t) = x :: (a ++ Lib.joinTail [x] t) := by simp [Lib.joinTail]
      rw [e2, this]
      simp
    · rw [if_neg h, cutF_join c l]
      simp
theorem join_cut (code : List UInt8) : joinS (cutL 32 code) = code := by
  have := cutF_join 32 code []
  simpa [joinS, cutL] using this
theorem cutF_none (c : UInt8) : ∀ (l cur : List UInt8), c ∉ l → cutF c cur l = [cur ++ l]
  | [], cur, _ => by simp [cutF]
  | x :: l, cur, h => by
    simp only [List.mem_cons, not_or] at h
    rw [cutF, if_neg (fun e => h.1 e.symm), cutF_none c l _ h.2]
    simp
theorem cutF_piece (c : UInt8) : ∀ (a cur r : List UInt8), c ∉ a → cutF c cur (a ++ c :: r) = (cur ++ a) :: cutF c [] r
  | [], cur, r, _ => by simp [cutF]
  | x :: a, cur, r, h => by
    simp only [List.mem_cons, not_or] at h
    rw [List.cons_append, cutF, if_neg (fun e => h.1 e.symm), cutF_piece c a _ r h.2]
    simp
theorem cut_tail (c : UInt8) : ∀ (L : List (List UInt8)) (x : List UInt8), c ∉ x → (∀ y ∈ L, c ∉ y) → cutF c [] (x ++ Lib.joinTail [c] L) = x :: L
  | [], x, hx, _ => by simp [Lib.joinTail, cutF_none c x [] hx]
  | y :: L, x, hx, h => by
    have : x ++ Lib.joinTail [c] (y :: L) = x ++ c :: (y ++ Lib.joinTail [c] L) := by simp [Lib.joinTail]
    rw [this, cutF_piece c x [] _ hx, cut_tail c L y (h y (by simp)) fun z hz => h z (by simp [hz])]
    simp
theorem cut_join (L : List (List UInt8)) (h0 : L ≠ []) (h : ∀ y ∈ L, (32 : UInt8) ∉ y) : cutL 32 (joinS L) = L := by
  cases L with
  | nil => exact absurd rfl h0
  | cons x L =>
    rw [joinS, Lib.join_cons, cutL]
    exact cut_tail 32 L x (h x (by simp)) fun y hy => h y (by simp [hy])
theorem list_ne (t : T) : listT t ≠ [] := by cases t <;> simp [listT]
theorem list_clean : ∀ (t : T), WF t → ∀ y ∈ listT t, (32 : UInt8) ∉ y := by
  intro t
  induction t with
  | dig c =>
    intro hw y hy
    simp only [listT, List.mem_singleton] at hy
    subst hy
    have hw : isDig c = true := hw
    simp only [List.mem_singleton]
    rintro rfl
    exact absurd hw (by decide)
  | var c =>
    intro hw y hy
    simp only [listT, List.mem_singleton] at hy
    subst hy
    have hw : isVar c = true := hw
    simp only [List.mem_singleton]
    rintro rfl
    exact absurd hw (by decide)
  | one s x ih =>
    intro hw y hy
    simp only [listT, List.mem_append, List.mem_singleton] at hy
    rcases hy with hy | rfl
    · exact ih hw.2 y hy
    · simp only [List.mem_singleton]
      rintro rfl
      exact absurd hw.1 (by decide)
  | two s x y ihx ihy =>
    intro hw z hz
    simp only [listT, List.mem_append, List.mem_singleton] at hz
    rcases hz with (hz | hz) | rfl
    · exact ihx hw.2.1 z hz
    · exact ihy hw.2.2 z hz
    · simp only [List.mem_singleton]
      rintro rfl
      exact absurd hw.1 (by decide)
  | loop s v x y ihx ihy =>
    intro hw z hz
    simp only [listT, List.mem_append, List.mem_singleton] at hz
    rcases hz with ((hz | rfl) | hz) | rfl
    · exact ihx hw.2.2.1 z hz
    · simp only [List.mem_cons, List.not_mem_nil, or_false, not_or]
      refine ⟨?_, ?_⟩
      · rintro rfl
        exact absurd hw.1 (by decide)
      · rintro rfl
        exact absurd hw.2.1 (by decide)
    · exact ihy hw.2.2.2 z hz
    · simp only [List.mem_singleton]
      intro h
      rcases hw.1 with rfl | rfl <;> exact absurd h (by decide)
theorem cut_list {t : T} (hw : WF t) : cutL 32 (joinS (listT t)) = listT t := cut_join _ (list_ne t) (list_clean t hw)
end
end Go.Proofs.YtegbkihgnofkfaaGreatDoor.Ev
