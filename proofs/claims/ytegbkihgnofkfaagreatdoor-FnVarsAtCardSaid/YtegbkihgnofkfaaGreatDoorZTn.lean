/-
Texts Tn to Tn of the work.
-/
import Derived.Test.YtegbkihgnofkfaaGreatDoorZTe
/-
The text of a term: both texts are the same, and reading gives the term back.
-/
namespace Go.Proofs.YtegbkihgnofkfaaGreatDoor.Ev
section
set_option linter.unusedVariables false
set_option linter.unusedSimpArgs false
open Go Go.RowKit
set_option linter.unusedVariables false
set_option linter.unusedSimpArgs false

def textT : T → List UInt8
  | .dig c => [c]
  | .var c => [c]
  | .one s x => s :: textT x
  | .two s x y => 40 :: (textT x ++ (s :: (textT y ++ [41])))
  | .loop s v x y => s :: v :: 58 :: (textT x ++ (62 :: (textT y ++ [s + 2])))

theorem rd_text : ∀ (n : Nat) (s : List UInt8) (t : T) (r : List UInt8), rd n s = some (t, r) → s = textT t ++ r := by
  intro n
  induction n with
  | zero => intro s t r h; cases h
  | succ n ih =>
    intro s t r h
    cases s with
    | nil => cases h
    | cons c s =>
      simp only [rd] at h
      split at h
      · simp only [Option.some.injEq, Prod.mk.injEq] at h; obtain ⟨rfl, rfl⟩ := h; rfl
      split at h
      · simp only [Option.some.injEq, Prod.mk.injEq] at h; obtain ⟨rfl, rfl⟩ := h; rfl
      split at h
      · split at h
        · rename_i x r1 h1
          simp only [Option.some.injEq, Prod.mk.injEq] at h; obtain ⟨rfl, rfl⟩ := h
          rw [ih _ _ _ h1]
          rfl
        · cases h
      split at h
      · rename_i hc
        unfold rdTwo at h
        split at h
        · rename_i x q r2 h1
          split at h
          · split at h
            · rename_i y z r4 h2
              split at h
              · rename_i hz
                simp only [Option.some.injEq, Prod.mk.injEq] at h; obtain ⟨rfl, rfl⟩ := h
                rw [ih _ _ _ h1, ih _ _ _ h2, hc, hz]
                simp [textT]
              · cases h
            · cases h
          · cases h
        · cases h
      split at h
      · unfold rdLoop at h
        split at h
        · rename_i v d r1
          split at h
          · rename_i hv
            split at h
            · rename_i x q r2 h1
              split at h
              · rename_i hq
                split at h
                · rename_i y z r4 h2
                  split at h
                  · rename_i hz
                    simp only [Option.some.injEq, Prod.mk.injEq] at h; obtain ⟨rfl, rfl⟩ := h
                    rw [ih _ _ _ h1, ih _ _ _ h2, hv.2, hq, hz]
                    simp [textT]
                  · cases h
                · cases h
              · cases h
            · cases h
          · cases h
        · cases h
      · cases h

theorem one_not {c : UInt8} (h : isOne c = true) : isVar c = false ∧ isDig c = false := by
  have h2 : c = 83 ∨ c = 77 ∨ c = 73 ∨ c = 78 ∨ c = 82 ∨ c = 67 ∨ c = 80 := by simpa [isOne] using h
  rcases h2 with rfl | rfl | rfl | rfl | rfl | rfl | rfl <;> exact ⟨rfl, rfl⟩
theorem rd_of : ∀ (t : T), WF t → ∀ (n : Nat) (r : List UInt8), (textT t).length ≤ n → rd n (textT t ++ r) = some (t, r) := by
  intro t
  induction t with
  | dig c =>
    intro hw n r hn
    obtain ⟨m, rfl⟩ : ∃ m, n = m + 1 := ⟨n - 1, by simp [textT] at hn; omega⟩
    have hw : isDig c = true := hw
    simp [textT, rd, dig_not_var hw, hw]
  | var c =>
    intro hw n r hn
    obtain ⟨m, rfl⟩ : ∃ m, n = m + 1 := ⟨n - 1, by simp [textT] at hn; omega⟩
    have hw : isVar c = true := hw
    simp [textT, rd, hw]
  | one s x ih =>
    intro hw n r hn
    simp only [textT, List.length_cons] at hn
    obtain ⟨m, rfl⟩ : ∃ m, n = m + 1 := ⟨n - 1, by omega⟩
    obtain ⟨h1, h2⟩ := one_not hw.1
    simp [textT, rd, h1, h2, hw.1, ih hw.2 m r (by omega)]
  | two s x y ihx ihy =>
    intro hw n r hn
    simp only [textT, List.length_cons, List.length_append, List.length_nil] at hn
    obtain ⟨m, rfl⟩ : ∃ m, n = m + 1 := ⟨n - 1, by omega⟩
    have h1 : isVar 40 = false := rfl
    have h2 : isDig 40 = false := rfl
    have h3 : isOne 40 = false := rfl
    have e1 := ihx hw.2.1 m (s :: (textT y ++ (41 :: r))) (by omega)
    have e2 := ihy hw.2.2 m (41 :: r) (by omega)
    simp [textT, rd, rdTwo, h1, h2, h3, e1, e2, hw.1]
  | loop s v x y ihx ihy =>
    intro hw n r hn
    simp only [textT, List.length_cons, List.length_append, List.length_nil] at hn
    obtain ⟨m, rfl⟩ : ∃ m, n = m + 1 := ⟨n - 1, by omega⟩
    have hs : isVar s = false ∧ isDig s = false ∧ isOne s = false ∧ s ≠ 40 := by rcases hw.1 with h | h <;> rw [h] <;> decide
    have e1 := ihx hw.2.2.1 m (62 :: (textT y ++ ((s + 2) :: r))) (by omega)
    have e2 := ihy hw.2.2.2 m ((s + 2) :: r) (by omega)
    simp [textT, rd, rdLoop, hs.1, hs.2.1, hs.2.2.1, hs.2.2.2, hw.1, hw.2.1, e1, e2]
theorem rdT_text {t : List UInt8} {x : T} (h : rdT t = some x) : t = textT x := by
  unfold rdT at h
  split at h
  · cases h
  · split at h
    · rename_i y hy
      obtain rfl := Option.some.inj h
      simpa using rd_text _ _ _ _ hy
    · cases h
theorem rdT_of {x : T} (hw : WF x) (hl : (textT x).length ≤ 80) : rdT (textT x) = some x := by
  unfold rdT
  rw [if_neg (by omega)]
  have := rd_of x hw ((textT x).length + 1) [] (by omega)
  rw [List.append_nil] at this
  rw [this]

/-- A pointer to a term, however its parts' slices were made. -/
inductive IsP : AV → T → Prop
  | dig (ex : Bool) (c : UInt8) : IsP (.p [S [c], S [], .s ex 0 []]) (.dig c)
  | var (ex : Bool) (c : UInt8) : IsP (.p [S [c], S [], .s ex 0 []]) (.var c)
  | one (ex : Bool) (s : UInt8) {a : AV} {x : T} (h : IsP a x) : IsP (.p [S [s], S [], .s ex 1 [a]]) (.one s x)
  | two (ex : Bool) (s : UInt8) {a b : AV} {x y : T} (h : IsP a x) (k : IsP b y) : IsP (.p [S [s], S [], .s ex 2 [a, b]]) (.two s x y)
  | loop (ex : Bool) (s v : UInt8) {a b : AV} {x y : T} (h : IsP a x) (k : IsP b y) : IsP (.p [S [s], S [v], .s ex 2 [a, b]]) (.loop s v x y)
theorem encP_is : ∀ t, IsP (encP t) t
  | .dig c => .dig true c
  | .var c => .var true c
  | .one s x => .one true s (encP_is x)
  | .two s x y => .two true s (encP_is x) (encP_is y)
  | .loop s v x y => .loop true s v (encP_is x) (encP_is y)
theorem IsP.closed {a : AV} {t : T} (h : IsP a t) : Ev.closed a = true := by
  induction h with
  | dig => rfl
  | var => rfl
  | one ex s h ih => simp only [Ev.closed, closedL, ih, Bool.and_self]
  | two ex s h k ih ik => simp only [Ev.closed, closedL, ih, ik, Bool.and_self]
  | loop ex s v h k ih ik => simp only [Ev.closed, closedL, ih, ik, Bool.and_self]
theorem IsP.leaf {a : AV} {t : T} (h : IsP a t) : leaves a = some [a] ∧ leafOk a = true := by cases h <;> exact ⟨rfl, rfl⟩
theorem IsP.ptr {a : AV} {t : T} (h : IsP a t) (op : BinOp) (q : Nat) : bin op (.ptr q) a nilP = eqB op false := by cases h <;> rfl

def isLoop : T → Bool
  | .loop .. => true
  | _ => false
theorem loop_is {a : AV} {t : T} (h : IsP a t) : EE 76 [a] = some (B (isLoop t)) := by
  cases h with
  | dig ex c => exact loop_ev _ _ _ rfl
  | var ex c => exact loop_ev _ _ _ rfl
  | one ex s h => exact loop_ev _ _ _ (by simp only [closed, closedL, h.closed, Bool.and_self])
  | two ex s h k => exact loop_ev _ _ _ (by simp only [closed, closedL, h.closed, k.closed, Bool.and_self])
  | loop ex s v h k => exact loop_ev _ _ _ (by simp only [closed, closedL, h.closed, k.closed, Bool.and_self])
theorem str_addIf (a b : List UInt8) : strBin .add ⟨List.toArray a⟩ ⟨List.toArray b⟩ = if a.length + b.length ≤ 9223372036854775807 then some (S (a ++ b)) else none := by
  simp only [strBin, size_mk, append_mk]

/-- Signs of loops as they are. -/
def WFL : T → Prop
  | .dig _ => True
  | .var _ => True
  | .one _ x => WFL x
  | .two _ x y => WFL x ∧ WFL y
  | .loop s _ x y => (s = 91 ∨ s = 123) ∧ WFL x ∧ WFL y
theorem WF.l : ∀ {t : T}, WF t → WFL t
  | .dig _, _ => trivial
  | .var _, _ => trivial
  | .one _ x, h => WF.l (t := x) h.2
  | .two _ x y, h => ⟨WF.l (t := x) h.2.1, WF.l (t := y) h.2.2⟩
  | .loop _ _ x y, h => ⟨h.1, WF.l (t := x) h.2.2.1, WF.l (t := y) h.2.2.2⟩
theorem T_text : TT 52 = some (Tryz.f52, bodyOf Tryz.f52) := by kernel_rfl
set_option maxHeartbeats 4000000 in
theorem text_evL {a : AV} {t : T} (h : IsP a t) : WFL t → (textT t).length ≤ 1000000 → EE 52 [a] = some (S (textT t)) := by
  induction h with
  | dig ex c =>
    intro hw hb
    have hl := loop_is (.dig ex c)
    refine EE_plain T_text (by decide) (Nat.le_of_ble_eq_true rfl) rfl ?_
    rw [show opt 52 = [] from rfl]
    simp only [bodyOf, Tryz.f52, SA]
    simp only [hl, isLoop, textT, RR, IA, PA, RA0, RA1, RA2, RA3, RA4, RA5, RA6, RA7, RA8, RA9, RA10, Nat.reduceAdd, Nat.reduceMul, Nat.reduceEqDiff, Nat.reduceLeDiff, Nat.reduceLT, Int.reduceToNat, Int.reduceLT, Int.reduceLE, Int.reduceEq, Int.reduceNeg, Int.reduceAdd, Int.reduceSub, Int.reduceMul, reduceIte]
  | var ex c =>
    intro hw hb
    have hl := loop_is (.var ex c)
    refine EE_plain T_text (by decide) (Nat.le_of_ble_eq_true rfl) rfl ?_
    rw [show opt 52 = [] from rfl]
    simp only [bodyOf, Tryz.f52, SA]
    simp only [hl, isLoop, textT, RR, IA, PA, RA0, RA1, RA2, RA3, RA4, RA5, RA6, RA7, RA8, RA9, RA10, Nat.reduceAdd, Nat.reduceMul, Nat.reduceEqDiff, Nat.reduceLeDiff, Nat.reduceLT, Int.reduceToNat, Int.reduceLT, Int.reduceLE, Int.reduceEq, Int.reduceNeg, Int.reduceAdd, Int.reduceSub, Int.reduceMul, reduceIte]
  | @one ex s a x h ih =>
    intro hw hb
    simp only [textT, List.length_cons, List.length_append, List.length_nil] at hb
    have hl := loop_is (.one ex s h)
    have hx := ih hw (by omega)
    refine EE_plain T_text (by decide) (Nat.le_of_ble_eq_true rfl) (by simp only [closedL, closed, h.closed, Bool.and_self]) ?_
    rw [show opt 52 = [] from rfl]
    simp only [bodyOf, Tryz.f52, SA]
    simp only [hl, hx, h.closed, isLoop, str_addIf, textT, RR, IA, PA, RA0, RA1, RA2, RA3, RA4, RA5, RA6, RA7, RA8, RA9, RA10, Nat.reduceAdd, Nat.reduceMul, Nat.reduceEqDiff, Nat.reduceLeDiff, Nat.reduceLT, Int.reduceToNat, Int.reduceLT, Int.reduceLE, Int.reduceEq, Int.reduceNeg, Int.reduceAdd, Int.reduceSub, Int.reduceMul, reduceIte]
    rw [if_pos (by omega)]
  | @two ex s a b x y h k ihx ihy =>
    intro hw hb
    simp only [textT, List.length_cons, List.length_append, List.length_nil] at hb
    have hl := loop_is (.two ex s h k)
    have hx := ihx hw.1 (by omega)
    have hy := ihy hw.2 (by omega)
    refine EE_plain T_text (by decide) (Nat.le_of_ble_eq_true rfl) (by simp only [closedL, closed, h.closed, k.closed, Bool.and_self]) ?_
    rw [show opt 52 = [] from rfl]
    simp only [bodyOf, Tryz.f52, SA]
    simp only [hl, hx, hy, h.closed, k.closed, isLoop, str_addIf, textT, List.length_append, List.append_assoc, RR, IA, PA, RA0, RA1, RA2, RA3, RA4, RA5, RA6, RA7, RA8, RA9, RA10, Nat.reduceAdd, Nat.reduceMul, Nat.reduceEqDiff, Nat.reduceLeDiff, Nat.reduceLT, Int.reduceToNat, Int.reduceLT, Int.reduceLE, Int.reduceEq, Int.reduceNeg, Int.reduceAdd, Int.reduceSub, Int.reduceMul, reduceIte]
    repeat rw [if_pos (by omega)]
  | @loop ex s v a b x y h k ihx ihy =>
    intro hw hb
    simp only [textT, List.length_cons, List.length_append, List.length_nil] at hb
    have hl := loop_is (.loop ex s v h k)
    have hx := ihx hw.2.1 (by omega)
    have hy := ihy hw.2.2 (by omega)
    have he : EE 77 [S [s]] = some (S [s + 2]) := by
      rw [ends_ev]
      rcases hw.1 with h | h <;> rw [h] <;> rfl
    refine EE_plain T_text (by decide) (Nat.le_of_ble_eq_true rfl) (by simp only [closedL, closed, h.closed, k.closed, Bool.and_self]) ?_
    rw [show opt 52 = [] from rfl]
    simp only [bodyOf, Tryz.f52, SA]
    simp only [hl, hx, hy, he, h.closed, k.closed, isLoop, str_addIf, textT, List.length_append, List.append_assoc, RR, IA, PA, RA0, RA1, RA2, RA3, RA4, RA5, RA6, RA7, RA8, RA9, RA10, Nat.reduceAdd, Nat.reduceMul, Nat.reduceEqDiff, Nat.reduceLeDiff, Nat.reduceLT, Int.reduceToNat, Int.reduceLT, Int.reduceLE, Int.reduceEq, Int.reduceNeg, Int.reduceAdd, Int.reduceSub, Int.reduceMul, reduceIte]
    repeat rw [if_pos (by omega)]

theorem text_ev {a : AV} {t : T} (h : IsP a t) (hw : WF t) (hl : (textT t).length ≤ 1000000) : EE 52 [a] = some (S (textT t)) := text_evL h hw.l hl

theorem T_l5Text : TT 62 = some (Tryz.f62, bodyOf Tryz.f62) := by kernel_rfl
set_option maxHeartbeats 4000000 in
theorem l5Text_ev : ∀ t, WF t → (textT t).length ≤ 1000000 → EE 62 [.a (encN t)] = some (S (textT t)) := by
  intro t
  induction t with
  | dig c =>
    intro hw hb
    refine EE_plain T_l5Text (by decide) (Nat.le_of_ble_eq_true rfl) (by simp only [closedL, closed, encN_closed, Bool.and_self]) ?_
    rw [show opt 62 = [] from rfl]
    simp only [bodyOf, Tryz.f62, SA]
    simp only [encN, textT, TMA, RR, IA, PA, RA0, RA1, RA2, RA3, RA4, RA5, RA6, RA7, RA8, RA9, RA10, Nat.reduceAdd, Nat.reduceMul, Nat.reduceEqDiff, Nat.reduceLeDiff, Nat.reduceLT, Int.reduceToNat, Int.reduceLT, Int.reduceLE, Int.reduceEq, Int.reduceNeg, Int.reduceAdd, Int.reduceSub, Int.reduceMul, reduceIte]
  | var c =>
    intro hw hb
    refine EE_plain T_l5Text (by decide) (Nat.le_of_ble_eq_true rfl) (by simp only [closedL, closed, encN_closed, Bool.and_self]) ?_
    rw [show opt 62 = [] from rfl]
    simp only [bodyOf, Tryz.f62, SA]
    simp only [encN, textT, TMA, RR, IA, PA, RA0, RA1, RA2, RA3, RA4, RA5, RA6, RA7, RA8, RA9, RA10, Nat.reduceAdd, Nat.reduceMul, Nat.reduceEqDiff, Nat.reduceLeDiff, Nat.reduceLT, Int.reduceToNat, Int.reduceLT, Int.reduceLE, Int.reduceEq, Int.reduceNeg, Int.reduceAdd, Int.reduceSub, Int.reduceMul, reduceIte]
  | one s x ih =>
    intro hw hb
    simp only [textT, List.length_cons, List.length_append, List.length_nil] at hb
    have hx := ih hw.2 (by omega)
    refine EE_plain T_l5Text (by decide) (Nat.le_of_ble_eq_true rfl) (by simp only [closedL, closed, encN_closed, Bool.and_self]) ?_
    rw [show opt 62 = [] from rfl]
    simp only [bodyOf, Tryz.f62, SA]
    simp only [encN, textT, hx, str_addIf, TMA, RR, IA, PA, RA0, RA1, RA2, RA3, RA4, RA5, RA6, RA7, RA8, RA9, RA10, Nat.reduceAdd, Nat.reduceMul, Nat.reduceEqDiff, Nat.reduceLeDiff, Nat.reduceLT, Int.reduceToNat, Int.reduceLT, Int.reduceLE, Int.reduceEq, Int.reduceNeg, Int.reduceAdd, Int.reduceSub, Int.reduceMul, reduceIte]
    rw [if_pos (by omega)]
  | two s x y ihx ihy =>
    intro hw hb
    simp only [textT, List.length_cons, List.length_append, List.length_nil] at hb
    have hx := ihx hw.2.1 (by omega)
    have hy := ihy hw.2.2 (by omega)
    refine EE_plain T_l5Text (by decide) (Nat.le_of_ble_eq_true rfl) (by simp only [closedL, closed, encN_closed, Bool.and_self]) ?_
    rw [show opt 62 = [] from rfl]
    simp only [bodyOf, Tryz.f62, SA]
    simp only [encN, textT, hx, hy, str_addIf, List.length_append, List.append_assoc, TMA, RR, IA, PA, RA0, RA1, RA2, RA3, RA4, RA5, RA6, RA7, RA8, RA9, RA10, Nat.reduceAdd, Nat.reduceMul, Nat.reduceEqDiff, Nat.reduceLeDiff, Nat.reduceLT, Int.reduceToNat, Int.reduceLT, Int.reduceLE, Int.reduceEq, Int.reduceNeg, Int.reduceAdd, Int.reduceSub, Int.reduceMul, reduceIte]
    repeat rw [if_pos (by omega)]
  | loop s v x y ihx ihy =>
    intro hw hb
    simp only [textT, List.length_cons, List.length_append, List.length_nil] at hb
    have hx := ihx hw.2.2.1 (by omega)
    have hy := ihy hw.2.2.2 (by omega)
    have hv0 : ¬ ((v.toNat : Int) = 0) := by
      have := hw.2.1
      simp only [isLV, Bool.and_eq_true, decide_eq_true_iff] at this
      omega
    have hs2 : IntKind.u8.wrap ((s.toNat : Int) + 2) = ((s + 2).toNat : Int) := by rcases hw.1 with h | h <;> rw [h] <;> rfl
    refine EE_plain T_l5Text (by decide) (Nat.le_of_ble_eq_true rfl) (by simp only [closedL, closed, encN_closed, Bool.and_self]) ?_
    rw [show opt 62 = [] from rfl]
    simp only [bodyOf, Tryz.f62, SA]
    simp only [encN, textT, hx, hy, hv0, hs2, str_addIf, List.length_append, List.append_assoc, TMA, RR, IA, PA, RA0, RA1, RA2, RA3, RA4, RA5, RA6, RA7, RA8, RA9, RA10, Nat.reduceAdd, Nat.reduceMul, Nat.reduceEqDiff, Nat.reduceLeDiff, Nat.reduceLT, Int.reduceToNat, Int.reduceLT, Int.reduceLE, Int.reduceEq, Int.reduceNeg, Int.reduceAdd, Int.reduceSub, Int.reduceMul, reduceIte]
    repeat rw [if_pos (by omega)]
end
end Go.Proofs.YtegbkihgnofkfaaGreatDoor.Ev
