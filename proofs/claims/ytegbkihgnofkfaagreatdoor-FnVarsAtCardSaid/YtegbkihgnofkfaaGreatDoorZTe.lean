/-
Texts Te to Tf of the work.
-/
import Derived.Test.YtegbkihgnofkfaaGreatDoorZTb
import Derived.Test.YtegbkihgnofkfaaGreatDoorZTd
/-
Reading a term: both readers give the term that the text begins with.
-/
namespace Go.Proofs.YtegbkihgnofkfaaGreatDoor.Ev
section
set_option linter.unusedVariables false
set_option linter.unusedSimpArgs false
open Go Go.RowKit
set_option linter.unusedVariables false
set_option linter.unusedSimpArgs false

theorem drop_cons {text : List UInt8} {i : Nat} {c : UInt8} {s : List UInt8} (h : text.drop i = c :: s) : text[i]? = some c ∧ text.drop (i + 1) = s ∧ i < text.length := by
  have h1 : i < text.length := by
    rcases Nat.lt_or_ge i text.length with h2 | h2
    · exact h2
    · rw [List.drop_eq_nil_of_le h2] at h; cases h
  refine ⟨?_, ?_, h1⟩
  · have : (text.drop i)[0]? = some c := by rw [h]; rfl
    simpa using this
  · have : (text.drop i).drop 1 = s := by rw [h]; rfl
    simpa [List.drop_drop] using this
theorem nx_cons {text : List UInt8} {i : Nat} {c : UInt8} {s : List UInt8} (b : Bool) (h : text.drop i = c :: s) : nxM text i b = (c, i + 1, b) := nxM_some b (drop_cons h).1
theorem nx_nil {text : List UInt8} {i : Nat} (b : Bool) (h : text.drop i = []) : nxM text i b = (0, i, true) := nxM_none b (List.getElem?_eq_none (by simpa using h))
theorem nx_bad (text : List UInt8) (i : Nat) : (nxM text i true).2.2 = true := by
  unfold nxM
  split <;> rfl
theorem is_bad (text : List UInt8) (i : Nat) (c : UInt8) : (isM text i true c).2 = true := by
  unfold isM
  rw [nx_bad]
  simp
theorem is_cons {text : List UInt8} {i : Nat} {d : UInt8} {s : List UInt8} (b : Bool) (c : UInt8) (h : text.drop i = d :: s) : isM text i b c = (i + 1, !decide (d = c) || b) := by
  unfold isM
  rw [nx_cons b h]
theorem is_nil {text : List UInt8} {i : Nat} (b : Bool) (c : UInt8) (h : text.drop i = []) : (isM text i b c).2 = true := by
  unfold isM
  rw [nx_nil b h]
  simp
theorem part_bad (text : List UInt8) (n i : Nat) : partM text n i true = (zc, i, true) := rfl
theorem part_good (text : List UInt8) (n i : Nat) : partM text n i false = nodeM text n i false := rfl

/-- What the reference's reader does, by what the text begins with. -/
def Reads (text : List UInt8) (q : List AV × Nat × Bool) : Option (T × List UInt8) → Prop
  | some (t, r) => q = (encN t, text.length - r.length, false) ∧ text.drop (text.length - r.length) = r ∧ r.length ≤ text.length
  | none => q.2.2 = true
theorem dig_not_var {c : UInt8} (h : isDig c = true) : isVar c = false := by
  rw [isVar_cases]
  simp only [isDig, isLV, Bool.and_eq_true, decide_eq_true_iff] at h ⊢
  simp only [Bool.or_eq_false_iff, decide_eq_false_iff_not, ← UInt8.toNat_inj, Bool.and_eq_false_iff]
  refine ⟨?_, ?_, .inl ?_⟩
  · show ¬ c.toNat = 97; omega
  · show ¬ c.toNat = 98; omega
  · omega
theorem len_drop {text : List UInt8} {i : Nat} {s : List UInt8} (h : text.drop i = s) (hi : i ≤ text.length) : text.length = i + s.length := by
  have := congrArg List.length h
  rw [List.length_drop] at this
  omega

theorem nodeM_rd (text : List UInt8) : ∀ (n i : Nat), i ≤ text.length → Reads text (nodeM text n i false) (rd n (text.drop i)) := by
  intro n
  induction n with
  | zero => intro i _; exact rfl
  | succ n ih =>
    intro i hi
    have hsub : ∀ (j : Nat) (r : List UInt8), text.drop j = r → r.length ≤ text.length → j ≤ text.length → Reads text (nodeM text n j false) (rd n r) := fun j r h1 _ h3 => h1 ▸ ih j h3
    rw [nodeM_succ]
    cases hs : text.drop i with
    | nil =>
      rw [nx_nil false hs]
      exact rfl
    | cons c s =>
      obtain ⟨_, hd, hlt⟩ := drop_cons hs
      have hlen := len_drop hs hi
      simp only [List.length_cons] at hlen
      rw [nx_cons false hs]
      simp only [rd]
      have leaf : text.drop (text.length - s.length) = s ∧ i + 1 = text.length - s.length ∧ s.length ≤ text.length := by
        have e : text.length - s.length = i + 1 := by omega
        exact ⟨by rw [e]; exact hd, e.symm, by omega⟩
      by_cases h1 : isDig c = true
      · rw [if_pos h1, dig_not_var h1, if_neg (by simp), if_pos h1]
        exact ⟨by rw [leaf.2.1]; rfl, leaf.1, leaf.2.2⟩
      rw [if_neg h1]
      by_cases h2 : isVar c = true
      · rw [if_pos h2, if_pos h2]
        exact ⟨by rw [leaf.2.1]; rfl, leaf.1, leaf.2.2⟩
      rw [if_neg h2, if_neg h2, if_neg h1]
      have hx := hsub (i + 1) s hd (by omega) (by omega)
      by_cases h3 : isOne c = true
      · rw [if_pos h3, if_pos h3, part_good]
        cases hq : rd n s with
        | none =>
          rw [hq] at hx
          exact hx
        | some q =>
          obtain ⟨t, r⟩ := q
          rw [hq] at hx
          obtain ⟨e1, e2, e3⟩ := hx
          rw [e1]
          exact ⟨rfl, e2, e3⟩
      rw [if_neg h3, if_neg h3]
      by_cases h4 : c = 40
      · rw [if_pos h4, if_pos h4, part_good]
        simp only [rdTwo]
        cases hq : rd n s with
        | none =>
          rw [hq] at hx
          have hb : (nodeM text n (i + 1) false).2.2 = true := hx
          simp only [Reads, hb, nx_bad, Bool.true_or, part_bad, if_true]
        | some q =>
          obtain ⟨t, r⟩ := q
          rw [hq] at hx
          obtain ⟨e1, e2, e3⟩ := hx
          rw [e1]
          simp only
          cases r with
          | nil =>
            rw [nx_nil false e2]
            simp only [Reads, Bool.true_or, part_bad, if_true]
          | cons g r2 =>
            obtain ⟨_, e4, e5⟩ := drop_cons e2
            rw [nx_cons false e2]
            simp only [Bool.false_or, List.length_cons] at e3 e4 e5 ⊢
            by_cases h5 : isTwo g = true
            · simp only [h5, Bool.not_true, part_good, if_true]
              have hy := hsub _ r2 e4 (by omega) (by omega)
              cases hq2 : rd n r2 with
              | none =>
                rw [hq2] at hy
                have hb : (nodeM text n (text.length - (r2.length + 1) + 1) false).2.2 = true := hy
                simp only [Reads, hb, if_true]
              | some q2 =>
                obtain ⟨t2, r3⟩ := q2
                rw [hq2] at hy
                obtain ⟨f1, f2, f3⟩ := hy
                rw [f1]
                simp only [Bool.false_eq_true, if_false]
                cases r3 with
                | nil =>
                  simp only [Reads]
                  exact is_nil false 41 f2
                | cons z r4 =>
                  obtain ⟨_, f4, f5⟩ := drop_cons f2
                  simp only [List.length_cons] at f3 f4 f5 ⊢
                  simp only [List.length_cons] at f2
                  rw [is_cons false 41 f2]
                  by_cases h6 : z = 41
                  · have e : text.length - (r4.length + 1) + 1 = text.length - r4.length := by omega
                    rw [if_pos h6]
                    refine ⟨?_, by rw [← e]; exact f4, by omega⟩
                    rw [h6, e]
                    rfl
                  · rw [if_neg h6]
                    simp only [Reads, h6, decide_false, Bool.not_false, Bool.true_or]
            · simp only [h5, Bool.not_false, part_bad, if_true, Reads, if_false, Bool.false_eq_true]
      rw [if_neg h4, if_neg h4]
      by_cases h5 : c = 91 ∨ c = 123
      case neg =>
        rw [if_neg h5, if_neg h5]
        exact rfl
      rw [if_pos h5, if_pos h5]
      simp only [rdLoop]
      cases s with
      | nil =>
        rw [nx_nil false hd]
        simp only [Reads, Bool.true_or, is_bad, part_bad, if_true]
      | cons v s2 =>
        obtain ⟨_, g1, g2⟩ := drop_cons hd
        rw [nx_cons false hd]
        simp only [Bool.false_or, List.length_cons] at hlen ⊢
        cases s2 with
        | nil =>
          have : (isM text (i + 1 + 1) (!isLV v) 58).2 = true := is_nil _ 58 g1
          simp only [Reads, this, is_bad, part_bad, if_true]
        | cons d r1 =>
          obtain ⟨_, g3, g4⟩ := drop_cons g1
          rw [is_cons _ 58 g1]
          simp only [List.length_cons] at hlen ⊢
          by_cases h6 : isLV v = true ∧ d = 58
          case neg =>
            have : (!decide (d = 58) || !isLV v) = true := by
              cases hv : isLV v with
              | false => simp
              | true => simp only [hv, true_and] at h6; simp [h6]
            simp only [Reads, this, is_bad, part_bad, if_true, h6, if_false]
          have hb0 : (!decide (d = 58) || !isLV v) = false := by rw [h6.1, h6.2]; rfl
          rw [if_pos h6]
          simp only [hb0, part_good]
          have hx := hsub (i + 1 + 1 + 1) r1 g3 (by omega) (by omega)
          cases hq : rd n r1 with
          | none =>
            rw [hq] at hx
            have hb : (nodeM text n (i + 1 + 1 + 1) false).2.2 = true := hx
            simp only [Reads, hb, is_bad, part_bad, if_true]
          | some q =>
            obtain ⟨t, r⟩ := q
            rw [hq] at hx
            obtain ⟨e1, e2, e3⟩ := hx
            rw [e1]
            simp only
            cases r with
            | nil =>
              have : (isM text (text.length - 0) false 62).2 = true := is_nil false 62 e2
              simp only [List.length_nil, Reads, this, part_bad, if_true]
            | cons g r2 =>
              obtain ⟨_, e4, e5⟩ := drop_cons e2
              simp only [List.length_cons] at e2 e3 e4 e5 ⊢
              rw [is_cons false 62 e2]
              by_cases h7 : g = 62
              case neg =>
                have : (!decide (g = 62) || false) = true := by simp [h7]
                rw [if_neg h7]
                simp only [Reads, this, part_bad, if_true]
              have hb1 : (!decide (g = 62) || false) = false := by simp [h7]
              rw [if_pos h7]
              simp only [hb1, part_good]
              have hy := hsub _ r2 e4 (by omega) (by omega)
              cases hq2 : rd n r2 with
              | none =>
                rw [hq2] at hy
                have hb : (nodeM text n (text.length - (r2.length + 1) + 1) false).2.2 = true := hy
                simp only [Reads, hb, if_true]
              | some q2 =>
                obtain ⟨t2, r3⟩ := q2
                rw [hq2] at hy
                obtain ⟨f1, f2, f3⟩ := hy
                rw [f1]
                simp only [Bool.false_eq_true, if_false]
                cases r3 with
                | nil =>
                  simp only [Reads]
                  exact is_nil false (c + 2) f2
                | cons z r4 =>
                  obtain ⟨_, f4, f5⟩ := drop_cons f2
                  simp only [List.length_cons] at f3 f4 f5 ⊢
                  simp only [List.length_cons] at f2
                  rw [is_cons false (c + 2) f2]
                  by_cases h8 : z = c + 2
                  · have e : text.length - (r4.length + 1) + 1 = text.length - r4.length := by omega
                    rw [if_pos h8]
                    refine ⟨?_, by rw [← e]; exact f4, by omega⟩
                    rw [h8, e]
                    simp [encN]
                  · rw [if_neg h8]
                    simp only [Reads, h8, decide_false, Bool.not_false, Bool.true_or]

/-- The term that a whole text is, if it is one and not too long. -/
def rdT (t : List UInt8) : Option T := if 80 < t.length then none else match rd (t.length + 1) t with | some (x, []) => some x | _ => none

theorem T_termOf : TT 78 = some (Tryz.f78, bodyOf Tryz.f78) := by kernel_rfl
theorem termOf_ev (t : List UInt8) (hl : t.length < 4611686018427387904) : EE 78 [S t] = some (match rdT t with | some x => encP x | none => nilP) := by
  refine EE_plain T_termOf (by decide) (Nat.le_of_ble_eq_true rfl) (by rfl) ?_
  rw [show opt 78 = [] from rfl]
  simp only [bodyOf, Tryz.f78, SA]
  by_cases h1 : 80 < t.length
  · have h2 : (80 : Int) < (t.length : Int) := by omega
    simp only [h1, h2, rdT, IA, PA, RA0, RA1, RA2, RA3, RA4, RA5, RA6, RA7, RA8, RA9, RA10, Nat.reduceAdd, Nat.reduceMul, Nat.reduceEqDiff, Nat.reduceLeDiff, Nat.reduceLT, Int.reduceToNat, Int.reduceLT, Int.reduceLE, Int.reduceEq, Int.reduceNeg, Int.reduceAdd, Int.reduceSub, Int.reduceMul, reduceIte]
  · have h2 : ¬ (80 : Int) < (t.length : Int) := by omega
    simp only [h1, h2, rdT, readTerm_ev (t.length + 1) t (Nat.lt_succ_self _) hl, IA, PA, RA0, RA1, RA2, RA3, RA4, RA5, RA6, RA7, RA8, RA9, RA10, Nat.reduceAdd, Nat.reduceMul, Nat.reduceEqDiff, Nat.reduceLeDiff, Nat.reduceLT, Int.reduceToNat, Int.reduceLT, Int.reduceLE, Int.reduceEq, Int.reduceNeg, Int.reduceAdd, Int.reduceSub, Int.reduceMul, reduceIte]
    cases hq : rd (t.length + 1) t with
    | none =>
      cases t with
      | nil => simp only [TMA, rdP, IA, PA, RA0, RA1, RA2, RA3, RA4, RA5, RA6, RA7, RA8, RA9, RA10, Nat.reduceAdd, Nat.reduceMul, Nat.reduceEqDiff, Nat.reduceLeDiff, Nat.reduceLT, Int.reduceToNat, Int.reduceLT, Int.reduceLE, Int.reduceEq, Int.reduceNeg, Int.reduceAdd, Int.reduceSub, Int.reduceMul, reduceIte]
      | cons c t => simp only [TMA, rdP, IA, PA, RA0, RA1, RA2, RA3, RA4, RA5, RA6, RA7, RA8, RA9, RA10, Nat.reduceAdd, Nat.reduceMul, Nat.reduceEqDiff, Nat.reduceLeDiff, Nat.reduceLT, Int.reduceToNat, Int.reduceLT, Int.reduceLE, Int.reduceEq, Int.reduceNeg, Int.reduceAdd, Int.reduceSub, Int.reduceMul, reduceIte]
    | some q =>
      obtain ⟨x, r⟩ := q
      cases r with
      | nil =>
        simp only [TMA, rdP, IA, PA, RA0, RA1, RA2, RA3, RA4, RA5, RA6, RA7, RA8, RA9, RA10, Nat.reduceAdd, Nat.reduceMul, Nat.reduceEqDiff, Nat.reduceLeDiff, Nat.reduceLT, Int.reduceToNat, Int.reduceLT, Int.reduceLE, Int.reduceEq, Int.reduceNeg, Int.reduceAdd, Int.reduceSub, Int.reduceMul, reduceIte]
        have := encP_closed x
        cases x <;> exact giveAll_p this
      | cons c r => simp only [TMA, rdP, IA, PA, RA0, RA1, RA2, RA3, RA4, RA5, RA6, RA7, RA8, RA9, RA10, Nat.reduceAdd, Nat.reduceMul, Nat.reduceEqDiff, Nat.reduceLeDiff, Nat.reduceLT, Int.reduceToNat, Int.reduceLT, Int.reduceLE, Int.reduceEq, Int.reduceNeg, Int.reduceAdd, Int.reduceSub, Int.reduceMul, reduceIte]

theorem T_l5Read : TT 39 = some (Tryz.f39, bodyOf Tryz.f39) := by kernel_rfl
theorem l5Read_ev (t : List UInt8) (hl : t.length < 4611686018427387904) : EE 39 [S t] = some (match rdT t with | some x => .t [.a (encN x), B true] | none => .t [.a zc, B false]) := by
  refine EE_plain T_l5Read (by decide) (Nat.le_of_ble_eq_true rfl) (by rfl) ?_
  rw [show opt 39 = [] from rfl]
  simp only [bodyOf, Tryz.f39, SA]
  simp only [IA, PA, RA0, RA1, RA2, RA3, RA4, RA5, RA6, RA7, RA8, RA9, RA10, Nat.reduceAdd, Nat.reduceMul, Nat.reduceEqDiff, Nat.reduceLeDiff, Nat.reduceLT, Int.reduceToNat, Int.reduceLT, Int.reduceLE, Int.reduceEq, Int.reduceNeg, Int.reduceAdd, Int.reduceSub, Int.reduceMul, reduceIte]
  have hn := node_ev t hl (t.length + 1) 0 (Nat.zero_le _) (by omega)
  have hr := nodeM_rd t (t.length + 1) 0 (Nat.zero_le _)
  have hok := (nodeM_ok t (t.length + 1) 0 false (Nat.zero_le _)).1
  rw [List.drop_zero] at hr
  rw [call_ob_v (by rfl) (by rfl) rfl rfl (show EE 57 [lent 87 [S t, .v (.int .i64 0), .v (.bool false)]] = _ from hn) rfl hok.cl (show 1 ≤ 4 by decide)]
  generalize nodeM t (t.length + 1) 0 false = x at hr hok
  obtain ⟨z, i, b⟩ := x
  simp only at hok
  have hzl := hok.len
  have hzf := hok.lf
  have t1 : z.take 3 = z := List.take_of_length_le (by omega)
  simp only [hzl, hzf, IA, PA, RA0, RA1, RA2, RA3, RA4, RA5, RA6, RA7, RA8, RA9, RA10, Nat.reduceAdd, Nat.reduceMul, Nat.reduceEqDiff, Nat.reduceLeDiff, Nat.reduceLT, Int.reduceToNat, Int.reduceLT, Int.reduceLE, Int.reduceEq, Int.reduceNeg, Int.reduceAdd, Int.reduceSub, Int.reduceMul, reduceIte]
  have hrd : rdT t = if 80 < t.length then none else match rd (t.length + 1) t with | some (x, []) => some x | _ => none := rfl
  cases hq : rd (t.length + 1) t with
  | none =>
    rw [hq] at hr hrd
    obtain rfl : b = true := hr
    have h0 : rdT t = none := by rw [hrd]; split <;> rfl
    simp only [h0, give_two, IA, PA, RA0, RA1, RA2, RA3, RA4, RA5, RA6, RA7, RA8, RA9, RA10, Nat.reduceAdd, Nat.reduceMul, Nat.reduceEqDiff, Nat.reduceLeDiff, Nat.reduceLT, Int.reduceToNat, Int.reduceLT, Int.reduceLE, Int.reduceEq, Int.reduceNeg, Int.reduceAdd, Int.reduceSub, Int.reduceMul, reduceIte]
    rfl
  | some q =>
    obtain ⟨tm, r⟩ := q
    rw [hq] at hr hrd
    obtain ⟨e1, e2, e3⟩ := hr
    simp only [Prod.mk.injEq] at e1
    obtain ⟨rfl, rfl, rfl⟩ := e1
    cases r with
    | cons c r =>
      have h0 : rdT t = none := by rw [hrd]; split <;> rfl
      have h1 : ¬ (((t.length - (r.length + 1) : Nat) : Int) = (t.length : Int)) := by
        simp only [List.length_cons] at e3
        omega
      simp only [h0, h1, give_two, IA, PA, RA0, RA1, RA2, RA3, RA4, RA5, RA6, RA7, RA8, RA9, RA10, Nat.reduceAdd, Nat.reduceMul, Nat.reduceEqDiff, Nat.reduceLeDiff, Nat.reduceLT, Int.reduceToNat, Int.reduceLT, Int.reduceLE, Int.reduceEq, Int.reduceNeg, Int.reduceAdd, Int.reduceSub, Int.reduceMul, reduceIte]
      rfl
    | nil =>
      by_cases h2 : 80 < t.length
      · have h0 : rdT t = none := by rw [hrd, if_pos h2]
        have h3 : (80 : Int) < (t.length : Int) := by omega
        simp only [h0, h3, Nat.sub_zero, give_two, IA, PA, RA0, RA1, RA2, RA3, RA4, RA5, RA6, RA7, RA8, RA9, RA10, Nat.reduceAdd, Nat.reduceMul, Nat.reduceEqDiff, Nat.reduceLeDiff, Nat.reduceLT, Int.reduceToNat, Int.reduceLT, Int.reduceLE, Int.reduceEq, Int.reduceNeg, Int.reduceAdd, Int.reduceSub, Int.reduceMul, reduceIte]
        rfl
      · have h0 : rdT t = some tm := by rw [hrd, if_neg h2]
        have h3 : ¬ (80 : Int) < (t.length : Int) := by omega
        simp only [h0, h3, Nat.sub_zero, hzl, hzf, t1, give_two, encN_closed, Nat.le_refl, IA, PA, RA0, RA1, RA2, RA3, RA4, RA5, RA6, RA7, RA8, RA9, RA10, Nat.reduceAdd, Nat.reduceMul, Nat.reduceEqDiff, Nat.reduceLeDiff, Nat.reduceLT, Int.reduceToNat, Int.reduceLT, Int.reduceLE, Int.reduceEq, Int.reduceNeg, Int.reduceAdd, Int.reduceSub, Int.reduceMul, reduceIte]
end
end Go.Proofs.YtegbkihgnofkfaaGreatDoor.Ev

/-
The instructions of a term: both lists are the same.
-/
namespace Go.Proofs.YtegbkihgnofkfaaGreatDoor.Ev
section
set_option linter.unusedVariables false
set_option linter.unusedSimpArgs false
open Go Go.RowKit
set_option linter.unusedVariables false
set_option linter.unusedSimpArgs false

/-- The instructions of a term. -/
def listT : T → List (List UInt8)
  | .dig c => [[c]]
  | .var c => [[c]]
  | .one s x => listT x ++ [[s]]
  | .two s x y => listT x ++ listT y ++ [[s]]
  | .loop s v x y => listT x ++ [[s, v]] ++ listT y ++ [[s + 2]]
/-- Terms as they are read. -/
def WF : T → Prop
  | .dig c => isDig c = true
  | .var c => isVar c = true
  | .one s x => isOne s = true ∧ WF x
  | .two s x y => isTwo s = true ∧ WF x ∧ WF y
  | .loop s v x y => (s = 91 ∨ s = 123) ∧ isLV v = true ∧ WF x ∧ WF y
theorem rd_wf : ∀ (n : Nat) (s : List UInt8) (t : T) (r : List UInt8), rd n s = some (t, r) → WF t ∧ (listT t).length + r.length ≤ s.length := by
  intro n
  induction n with
  | zero => intro s t r h; cases h
  | succ n ih =>
    intro s t r h
    cases s with
    | nil => cases h
    | cons c s =>
      simp only [rd] at h
      split at h
      · rename_i hv
        simp only [Option.some.injEq, Prod.mk.injEq] at h; obtain ⟨rfl, rfl⟩ := h
        exact ⟨hv, by simp [listT]; omega⟩
      split at h
      · rename_i hv
        simp only [Option.some.injEq, Prod.mk.injEq] at h; obtain ⟨rfl, rfl⟩ := h
        exact ⟨hv, by simp [listT]; omega⟩
      split at h
      · rename_i hv
        split at h
        · rename_i x r1 h1
          simp only [Option.some.injEq, Prod.mk.injEq] at h; obtain ⟨rfl, rfl⟩ := h
          have := ih _ _ _ h1
          exact ⟨⟨hv, this.1⟩, by simp [listT]; omega⟩
        · cases h
      split at h
      · unfold rdTwo at h
        split at h
        · rename_i x q r2 h1
          split at h
          · rename_i hv
            split at h
            · rename_i y z r4 h2
              split at h
              · simp only [Option.some.injEq, Prod.mk.injEq] at h; obtain ⟨rfl, rfl⟩ := h
                have k1 := ih _ _ _ h1
                have k2 := ih _ _ _ h2
                refine ⟨⟨hv, k1.1, k2.1⟩, ?_⟩
                simp only [listT, List.length_append, List.length_cons, List.length_nil] at *
                omega
              · cases h
            · cases h
          · cases h
        · cases h
      split at h
      · rename_i hc
        unfold rdLoop at h
        split at h
        · rename_i v d r1
          split at h
          · rename_i hv
            split at h
            · rename_i x q r2 h1
              split at h
              · split at h
                · rename_i y z r4 h2
                  split at h
                  · simp only [Option.some.injEq, Prod.mk.injEq] at h; obtain ⟨rfl, rfl⟩ := h
                    have k1 := ih _ _ _ h1
                    have k2 := ih _ _ _ h2
                    refine ⟨⟨hc, hv.1, k1.1, k2.1⟩, ?_⟩
                    simp only [listT, List.length_append, List.length_cons, List.length_nil] at *
                    omega
                  · cases h
                · cases h
              · cases h
            · cases h
          · cases h
        · cases h
      · cases h
theorem rdT_wf {t : List UInt8} {x : T} (h : rdT t = some x) : WF x ∧ (listT x).length ≤ 80 ∧ t.length ≤ 80 := by
  unfold rdT at h
  split at h
  · cases h
  · rename_i hl
    split at h
    · rename_i y hy
      obtain rfl := Option.some.inj h
      have := rd_wf _ _ _ _ hy
      simp only [List.length_nil] at this
      exact ⟨this.1, by omega, by omega⟩
    · cases h

theorem T_instructions : TT 79 = some (Tryz.f79, bodyOf Tryz.f79) := by kernel_rfl
theorem loop_enc (t : T) : EE 76 [encP t] = some (B (match t with | .loop .. => true | _ => false)) := by
  cases t with
  | dig c => exact loop_ev _ _ _ rfl
  | var c => exact loop_ev _ _ _ rfl
  | one s x => exact loop_ev _ _ _ (by simp only [closed, closedL, encP_closed, Bool.and_self])
  | two s x y => exact loop_ev _ _ _ (by simp only [closed, closedL, encP_closed, Bool.and_self])
  | loop s v x y => exact loop_ev _ _ _ (by simp only [closed, closedL, encP_closed, Bool.and_self])
set_option maxHeartbeats 4000000 in
theorem instructions_ev : ∀ t, WF t → (listT t).length ≤ 1000000 → EE 79 [encP t] = some (.o 9 1 (listT t).length (strs (listT t))) := by
  intro t
  induction t with
  | dig c =>
    intro hw hb
    refine EE_few 3 T_instructions (by decide) (Nat.le_of_ble_eq_true rfl) (by simp only [closedL, encP_closed, Bool.and_self]) ?_
    rw [show opt 79 = [] from rfl]
    simp only [bodyOf, Tryz.f79, SA]
    have hl := loop_enc (.dig c)
    simp only [encP] at hl ⊢
    simp only [hl, rounds_rd, RR, IA, PA, RA0, RA1, RA2, RA3, RA4, RA5, RA6, RA7, RA8, RA9, RA10, Nat.reduceAdd, Nat.reduceMul, Nat.reduceEqDiff, Nat.reduceLeDiff, Nat.reduceLT, Int.reduceToNat, Int.reduceLT, Int.reduceLE, Int.reduceEq, Int.reduceNeg, Int.reduceAdd, Int.reduceSub, Int.reduceMul, reduceIte]
    rw [app_s (by decide) rfl rfl rfl (by omega) (by omega) (.inl (by decide))]
    simp only [RR, IA, PA, RA0, RA1, RA2, RA3, RA4, RA5, RA6, RA7, RA8, RA9, RA10, Nat.reduceAdd, Nat.reduceMul, Nat.reduceEqDiff, Nat.reduceLeDiff, Nat.reduceLT, Int.reduceToNat, Int.reduceLT, Int.reduceLE, Int.reduceEq, Int.reduceNeg, Int.reduceAdd, Int.reduceSub, Int.reduceMul, reduceIte]
    exact give_row (by rfl) rfl
  | var c =>
    intro hw hb
    refine EE_few 3 T_instructions (by decide) (Nat.le_of_ble_eq_true rfl) (by simp only [closedL, encP_closed, Bool.and_self]) ?_
    rw [show opt 79 = [] from rfl]
    simp only [bodyOf, Tryz.f79, SA]
    have hl := loop_enc (.var c)
    simp only [encP] at hl ⊢
    simp only [hl, rounds_rd, RR, IA, PA, RA0, RA1, RA2, RA3, RA4, RA5, RA6, RA7, RA8, RA9, RA10, Nat.reduceAdd, Nat.reduceMul, Nat.reduceEqDiff, Nat.reduceLeDiff, Nat.reduceLT, Int.reduceToNat, Int.reduceLT, Int.reduceLE, Int.reduceEq, Int.reduceNeg, Int.reduceAdd, Int.reduceSub, Int.reduceMul, reduceIte]
    rw [app_s (by decide) rfl rfl rfl (by omega) (by omega) (.inl (by decide))]
    simp only [RR, IA, PA, RA0, RA1, RA2, RA3, RA4, RA5, RA6, RA7, RA8, RA9, RA10, Nat.reduceAdd, Nat.reduceMul, Nat.reduceEqDiff, Nat.reduceLeDiff, Nat.reduceLT, Int.reduceToNat, Int.reduceLT, Int.reduceLE, Int.reduceEq, Int.reduceNeg, Int.reduceAdd, Int.reduceSub, Int.reduceMul, reduceIte]
    exact give_row (by rfl) rfl
  | one s x ih =>
    intro hw hb
    refine EE_few 3 T_instructions (by decide) (Nat.le_of_ble_eq_true rfl) (by simp only [closedL, encP_closed, Bool.and_self]) ?_
    rw [show opt 79 = [] from rfl]
    simp only [bodyOf, Tryz.f79, SA]
    simp only [listT, List.length_append, List.length_cons, List.length_nil] at hb
    have hl := loop_enc (.one s x)
    have hx := ih hw.2 (by omega)
    simp only [encP] at hl ⊢
    simp only [hl, hx, rounds_rd, scW_row, encP_closed, RR, IA, PA, RA0, RA1, RA2, RA3, RA4, RA5, RA6, RA7, RA8, RA9, RA10, Nat.reduceAdd, Nat.reduceMul, Nat.reduceEqDiff, Nat.reduceLeDiff, Nat.reduceLT, Int.reduceToNat, Int.reduceLT, Int.reduceLE, Int.reduceEq, Int.reduceNeg, Int.reduceAdd, Int.reduceSub, Int.reduceMul, reduceIte]
    rw [app_s (by decide) (by simp only [strs_len, Nat.mul_one]) (strs_leaf _) rfl (by omega) (by omega) (.inr rfl)]
    simp only [hl, rounds_rd, encP_closed, RR, IA, PA, RA0, RA1, RA2, RA3, RA4, RA5, RA6, RA7, RA8, RA9, RA10, Nat.reduceAdd, Nat.reduceMul, Nat.reduceEqDiff, Nat.reduceLeDiff, Nat.reduceLT, Int.reduceToNat, Int.reduceLT, Int.reduceLE, Int.reduceEq, Int.reduceNeg, Int.reduceAdd, Int.reduceSub, Int.reduceMul, reduceIte]
    rw [app_w (by rfl) (by decide) rfl rfl (by simp only [strs_len, Nat.mul_one]) (by omega) (by omega) (by decide)]
    simp only [strs_one, strs_append, RR, IA, PA, RA0, RA1, RA2, RA3, RA4, RA5, RA6, RA7, RA8, RA9, RA10, Nat.reduceAdd, Nat.reduceMul, Nat.reduceEqDiff, Nat.reduceLeDiff, Nat.reduceLT, Int.reduceToNat, Int.reduceLT, Int.reduceLE, Int.reduceEq, Int.reduceNeg, Int.reduceAdd, Int.reduceSub, Int.reduceMul, reduceIte]
    rw [give_row (by rfl) (strs_closed _)]
    simp only [listT, List.length_append, List.length_cons, List.length_nil]
  | two s x y ihx ihy =>
    intro hw hb
    refine EE_few 3 T_instructions (by decide) (Nat.le_of_ble_eq_true rfl) (by simp only [closedL, encP_closed, Bool.and_self]) ?_
    rw [show opt 79 = [] from rfl]
    simp only [bodyOf, Tryz.f79, SA]
    simp only [listT, List.length_append, List.length_cons, List.length_nil] at hb
    have hl := loop_enc (.two s x y)
    have hx := ihx hw.2.1 (by omega)
    have hy := ihy hw.2.2 (by omega)
    simp only [encP] at hl ⊢
    simp only [hl, hx, rounds_rd, scW_row, encP_closed, RR, IA, PA, RA0, RA1, RA2, RA3, RA4, RA5, RA6, RA7, RA8, RA9, RA10, Nat.reduceAdd, Nat.reduceMul, Nat.reduceEqDiff, Nat.reduceLeDiff, Nat.reduceLT, Int.reduceToNat, Int.reduceLT, Int.reduceLE, Int.reduceEq, Int.reduceNeg, Int.reduceAdd, Int.reduceSub, Int.reduceMul, reduceIte]
    rw [app_s (by decide) (by simp only [strs_len, Nat.mul_one]) (strs_leaf _) rfl (by omega) (by omega) (.inr rfl)]
    simp only [hl, hy, rounds_rd, scW_row, encP_closed, RR, IA, PA, RA0, RA1, RA2, RA3, RA4, RA5, RA6, RA7, RA8, RA9, RA10, Nat.reduceAdd, Nat.reduceMul, Nat.reduceEqDiff, Nat.reduceLeDiff, Nat.reduceLT, Int.reduceToNat, Int.reduceLT, Int.reduceLE, Int.reduceEq, Int.reduceNeg, Int.reduceAdd, Int.reduceSub, Int.reduceMul, reduceIte]
    rw [app_w (by rfl) (by decide) (by simp only [strs_len, Nat.mul_one]) (strs_leaf _) (by simp only [strs_len, Nat.mul_one]) (by omega) (by omega) (by decide)]
    simp only [hl, rounds_rd, encP_closed, RR, IA, PA, RA0, RA1, RA2, RA3, RA4, RA5, RA6, RA7, RA8, RA9, RA10, Nat.reduceAdd, Nat.reduceMul, Nat.reduceEqDiff, Nat.reduceLeDiff, Nat.reduceLT, Int.reduceToNat, Int.reduceLT, Int.reduceLE, Int.reduceEq, Int.reduceNeg, Int.reduceAdd, Int.reduceSub, Int.reduceMul, reduceIte]
    rw [app_w (by rfl) (by decide) rfl rfl (by simp only [List.length_append, strs_len, Nat.mul_one]) (by omega) (by omega) (by decide)]
    simp only [strs_one, strs_append, RR, IA, PA, RA0, RA1, RA2, RA3, RA4, RA5, RA6, RA7, RA8, RA9, RA10, Nat.reduceAdd, Nat.reduceMul, Nat.reduceEqDiff, Nat.reduceLeDiff, Nat.reduceLT, Int.reduceToNat, Int.reduceLT, Int.reduceLE, Int.reduceEq, Int.reduceNeg, Int.reduceAdd, Int.reduceSub, Int.reduceMul, reduceIte]
    rw [give_row (by rfl) (strs_closed _)]
    simp only [listT, List.length_append, List.length_cons, List.length_nil]
  | loop s v x y ihx ihy =>
    intro hw hb
    refine EE_few 3 T_instructions (by decide) (Nat.le_of_ble_eq_true rfl) (by simp only [closedL, encP_closed, Bool.and_self]) ?_
    rw [show opt 79 = [] from rfl]
    simp only [bodyOf, Tryz.f79, SA]
    simp only [listT, List.length_append, List.length_cons, List.length_nil] at hb
    have hl := loop_enc (.loop s v x y)
    have hx := ihx hw.2.2.1 (by omega)
    have hy := ihy hw.2.2.2 (by omega)
    have he : EE 77 [S [s]] = some (S [s + 2]) := by
      rw [ends_ev]
      rcases hw.1 with h | h <;> rw [h] <;> rfl
    simp only [encP] at hl ⊢
    simp only [hl, hx, rounds_rd, scW_row, encP_closed, RR, IA, PA, RA0, RA1, RA2, RA3, RA4, RA5, RA6, RA7, RA8, RA9, RA10, Nat.reduceAdd, Nat.reduceMul, Nat.reduceEqDiff, Nat.reduceLeDiff, Nat.reduceLT, Int.reduceToNat, Int.reduceLT, Int.reduceLE, Int.reduceEq, Int.reduceNeg, Int.reduceAdd, Int.reduceSub, Int.reduceMul, reduceIte]
    rw [app_s (by decide) (by simp only [strs_len, Nat.mul_one]) (strs_leaf _) rfl (by omega) (by omega) (.inr rfl)]
    simp only [hl, hy, str_add, rounds_rd, scW_row, encP_closed, RR, IA, PA, RA0, RA1, RA2, RA3, RA4, RA5, RA6, RA7, RA8, RA9, RA10, Nat.reduceAdd, Nat.reduceMul, Nat.reduceEqDiff, Nat.reduceLeDiff, Nat.reduceLT, Int.reduceToNat, Int.reduceLT, Int.reduceLE, Int.reduceEq, Int.reduceNeg, Int.reduceAdd, Int.reduceSub, Int.reduceMul, reduceIte]
    rw [app_w (by rfl) (by decide) rfl rfl (by simp only [strs_len, Nat.mul_one]) (by omega) (by omega) (by decide)]
    simp only [hl, hy, str_add, rounds_rd, scW_row, encP_closed, RR, IA, PA, RA0, RA1, RA2, RA3, RA4, RA5, RA6, RA7, RA8, RA9, RA10, Nat.reduceAdd, Nat.reduceMul, Nat.reduceEqDiff, Nat.reduceLeDiff, Nat.reduceLT, Int.reduceToNat, Int.reduceLT, Int.reduceLE, Int.reduceEq, Int.reduceNeg, Int.reduceAdd, Int.reduceSub, Int.reduceMul, reduceIte]
    rw [app_w (by rfl) (by decide) (by simp only [strs_len, Nat.mul_one]) (strs_leaf _) (by simp only [List.length_append, List.length_cons, List.length_nil, strs_len, Nat.mul_one]) (by omega) (by omega) (by decide)]
    simp only [hl, he, rounds_rd, encP_closed, RR, IA, PA, RA0, RA1, RA2, RA3, RA4, RA5, RA6, RA7, RA8, RA9, RA10, Nat.reduceAdd, Nat.reduceMul, Nat.reduceEqDiff, Nat.reduceLeDiff, Nat.reduceLT, Int.reduceToNat, Int.reduceLT, Int.reduceLE, Int.reduceEq, Int.reduceNeg, Int.reduceAdd, Int.reduceSub, Int.reduceMul, reduceIte]
    rw [app_w (by rfl) (by decide) rfl rfl (by simp only [List.length_append, List.length_cons, List.length_nil, strs_len, Nat.mul_one]) (by omega) (by omega) (by decide)]
    simp only [strs_one, strs_append, RR, IA, PA, RA0, RA1, RA2, RA3, RA4, RA5, RA6, RA7, RA8, RA9, RA10, Nat.reduceAdd, Nat.reduceMul, Nat.reduceEqDiff, Nat.reduceLeDiff, Nat.reduceLT, Int.reduceToNat, Int.reduceLT, Int.reduceLE, Int.reduceEq, Int.reduceNeg, Int.reduceAdd, Int.reduceSub, Int.reduceMul, reduceIte]
    rw [give_row (by rfl) (strs_closed _)]
    simp only [listT, List.length_append, List.length_cons, List.length_nil]
end
end Go.Proofs.YtegbkihgnofkfaaGreatDoor.Ev
