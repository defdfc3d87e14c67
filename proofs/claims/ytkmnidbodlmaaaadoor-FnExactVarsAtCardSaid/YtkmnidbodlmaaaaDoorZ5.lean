/-
Texts Te to Ui of the work, in one.
-/
import Derived.Test.YtkmnidbodlmaaaaDoorZ4
import Derived.Lib.Join
import Derived.Lib.IndexLaws
/-
Reading a term: both readers give the term that the text begins with.
-/
namespace Go.Proofs.YtkmnidbodlmaaaaDoor.Ev
section
set_option linter.unusedVariables false
set_option linter.unusedSimpArgs false
open Go Go.RowKit
set_option linter.unusedVariables false
set_option linter.unusedSimpArgs false

theorem drop_cons {text : List UInt8} {i : Nat} {c : UInt8} {s : List UInt8} (h : text.drop i = c :: s) : text[i]? = some c ∧ text.drop (i + 1) = s ∧ i < text.length := by
  have h1 : i < text.length := by
    rcases Nat.lt_or_ge i text.length with h2 | h2
    · exact h2
    · rw [List.drop_eq_nil_of_le h2] at h; cases h
  refine ⟨?_, ?_, h1⟩
  · have : (text.drop i)[0]? = some c := by rw [h]; rfl
    simpa using this
  · have : (text.drop i).drop 1 = s := by rw [h]; rfl
    simpa [List.drop_drop] using this
theorem nx_cons {text : List UInt8} {i : Nat} {c : UInt8} {s : List UInt8} (b : Bool) (h : text.drop i = c :: s) : nxM text i b = (c, i + 1, b) := nxM_some b (drop_cons h).1
theorem nx_nil {text : List UInt8} {i : Nat} (b : Bool) (h : text.drop i = []) : nxM text i b = (0, i, true) := nxM_none b (List.getElem?_eq_none (by simpa using h))
theorem nx_bad (text : List UInt8) (i : Nat) : (nxM text i true).2.2 = true := by
  unfold nxM
  split <;> rfl
theorem is_bad (text : List UInt8) (i : Nat) (c : UInt8) : (isM text i true c).2 = true := by
  unfold isM
  rw [nx_bad]
  simp
theorem is_cons {text : List UInt8} {i : Nat} {d : UInt8} {s : List UInt8} (b : Bool) (c : UInt8) (h : text.drop i = d :: s) : isM text i b c = (i + 1, !decide (d = c) || b) := by
  unfold isM
  rw [nx_cons b h]
theorem is_nil {text : List UInt8} {i : Nat} (b : Bool) (c : UInt8) (h : text.drop i = []) : (isM text i b c).2 = true := by
  unfold isM
  rw [nx_nil b h]
  simp
theorem part_bad (text : List UInt8) (n i : Nat) : partM text n i true = (zc, i, true) := rfl
theorem part_good (text : List UInt8) (n i : Nat) : partM text n i false = nodeM text n i false := rfl

/-- What the reference's reader does, by what the text begins with. -/
def Reads (text : List UInt8) (q : List AV × Nat × Bool) : Option (T × List UInt8) → Prop
  | some (t, r) => q = (encN t, text.length - r.length, false) ∧ text.drop (text.length - r.length) = r ∧ r.length ≤ text.length
  | none => q.2.2 = true
theorem dig_not_var {c : UInt8} (h : isDig c = true) : isVar c = false := by
  rw [isVar_cases]
  simp only [isDig, isLV, Bool.and_eq_true, decide_eq_true_iff] at h ⊢
  simp only [Bool.or_eq_false_iff, decide_eq_false_iff_not, ← UInt8.toNat_inj, Bool.and_eq_false_iff]
  refine ⟨?_, ?_, .inl ?_⟩
  · show ¬ c.toNat = 97; omega
  · show ¬ c.toNat = 98; omega
  · omega
theorem len_drop {text : List UInt8} {i : Nat} {s : List UInt8} (h : text.drop i = s) (hi : i ≤ text.length) : text.length = i + s.length := by
  have := congrArg List.length h
  rw [List.length_drop] at this
  omega

theorem nodeM_rd (text : List UInt8) : ∀ (n i : Nat), i ≤ text.length → Reads text (nodeM text n i false) (rd n (text.drop i)) := by
  intro n
  induction n with
  | zero => intro i _; exact rfl
  | succ n ih =>
    intro i hi
    have hsub : ∀ (j : Nat) (r : List UInt8), text.drop j = r → r.length ≤ text.length → j ≤ text.length → Reads text (nodeM text n j false) (rd n r) := fun j r h1 _ h3 => h1 ▸ ih j h3
    rw [nodeM_succ]
    cases hs : text.drop i with
    | nil =>
      rw [nx_nil false hs]
      exact rfl
    | cons c s =>
      obtain ⟨_, hd, hlt⟩ := drop_cons hs
      have hlen := len_drop hs hi
      simp only [List.length_cons] at hlen
      rw [nx_cons false hs]
      simp only [rd]
      have leaf : text.drop (text.length - s.length) = s ∧ i + 1 = text.length - s.length ∧ s.length ≤ text.length := by
        have e : text.length - s.length = i + 1 := by omega
        exact ⟨by rw [e]; exact hd, e.symm, by omega⟩
      by_cases h1 : isDig c = true
      · rw [if_pos h1, dig_not_var h1, if_neg (by simp), if_pos h1]
        exact ⟨by rw [leaf.2.1]; rfl, leaf.1, leaf.2.2⟩
      rw [if_neg h1]
      by_cases h2 : isVar c = true
      · rw [if_pos h2, if_pos h2]
        exact ⟨by rw [leaf.2.1]; rfl, leaf.1, leaf.2.2⟩
      rw [if_neg h2, if_neg h2, if_neg h1]
      have hx := hsub (i + 1) s hd (by omega) (by omega)
      by_cases h3 : isOne c = true
      · rw [if_pos h3, if_pos h3, part_good]
        cases hq : rd n s with
        | none =>
          rw [hq] at hx
          exact hx
        | some q =>
          obtain ⟨t, r⟩ := q
          rw [hq] at hx
          obtain ⟨e1, e2, e3⟩ := hx
          rw [e1]
          exact ⟨rfl, e2, e3⟩
      rw [if_neg h3, if_neg h3]
      by_cases h4 : c = 40
      · rw [if_pos h4, if_pos h4, part_good]
        simp only [rdTwo]
        cases hq : rd n s with
        | none =>
          rw [hq] at hx
          have hb : (nodeM text n (i + 1) false).2.2 = true := hx
          simp only [Reads, hb, nx_bad, Bool.true_or, part_bad, if_true]
        | some q =>
          obtain ⟨t, r⟩ := q
          rw [hq] at hx
          obtain ⟨e1, e2, e3⟩ := hx
          rw [e1]
          simp only
          cases r with
          | nil =>
            rw [nx_nil false e2]
            simp only [Reads, Bool.true_or, part_bad, if_true]
          | cons g r2 =>
            obtain ⟨_, e4, e5⟩ := drop_cons e2
            rw [nx_cons false e2]
            simp only [Bool.false_or, List.length_cons] at e3 e4 e5 ⊢
            by_cases h5 : isTwo g = true
            · simp only [h5, Bool.not_true, part_good, if_true]
              have hy := hsub _ r2 e4 (by omega) (by omega)
              cases hq2 : rd n r2 with
              | none =>
                rw [hq2] at hy
                have hb : (nodeM text n (text.length - (r2.length + 1) + 1) false).2.2 = true := hy
                simp only [Reads, hb, if_true]
              | some q2 =>
                obtain ⟨t2, r3⟩ := q2
                rw [hq2] at hy
                obtain ⟨f1, f2, f3⟩ := hy
                rw [f1]
                simp only [Bool.false_eq_true, if_false]
                cases r3 with
                | nil =>
                  simp only [Reads]
                  exact is_nil false 41 f2
                | cons z r4 =>
                  obtain ⟨_, f4, f5⟩ := drop_cons f2
                  simp only [List.length_cons] at f3 f4 f5 ⊢
                  simp only [List.length_cons] at f2
                  rw [is_cons false 41 f2]
                  by_cases h6 : z = 41
                  · have e : text.length - (r4.length + 1) + 1 = text.length - r4.length := by omega
                    rw [if_pos h6]
                    refine ⟨?_, by rw [← e]; exact f4, by omega⟩
                    rw [h6, e]
                    rfl
                  · rw [if_neg h6]
                    simp only [Reads, h6, decide_false, Bool.not_false, Bool.true_or]
            · simp only [h5, Bool.not_false, part_bad, if_true, Reads, if_false, Bool.false_eq_true]
      rw [if_neg h4, if_neg h4]
      by_cases h5 : c = 91 ∨ c = 123
      case neg =>
        rw [if_neg h5, if_neg h5]
        exact rfl
      rw [if_pos h5, if_pos h5]
      simp only [rdLoop]
      cases s with
      | nil =>
        rw [nx_nil false hd]
        simp only [Reads, Bool.true_or, is_bad, part_bad, if_true]
      | cons v s2 =>
        obtain ⟨_, g1, g2⟩ := drop_cons hd
        rw [nx_cons false hd]
        simp only [Bool.false_or, List.length_cons] at hlen ⊢
        cases s2 with
        | nil =>
          have : (isM text (i + 1 + 1) (!isLV v) 58).2 = true := is_nil _ 58 g1
          simp only [Reads, this, is_bad, part_bad, if_true]
        | cons d r1 =>
          obtain ⟨_, g3, g4⟩ := drop_cons g1
          rw [is_cons _ 58 g1]
          simp only [List.length_cons] at hlen ⊢
          by_cases h6 : isLV v = true ∧ d = 58
          case neg =>
            have : (!decide (d = 58) || !isLV v) = true := by
              cases hv : isLV v with
              | false => simp
              | true => simp only [hv, true_and] at h6; simp [h6]
            simp only [Reads, this, is_bad, part_bad, if_true, h6, if_false]
          have hb0 : (!decide (d = 58) || !isLV v) = false := by rw [h6.1, h6.2]; rfl
          rw [if_pos h6]
          simp only [hb0, part_good]
          have hx := hsub (i + 1 + 1 + 1) r1 g3 (by omega) (by omega)
          cases hq : rd n r1 with
          | none =>
            rw [hq] at hx
            have hb : (nodeM text n (i + 1 + 1 + 1) false).2.2 = true := hx
            simp only [Reads, hb, is_bad, part_bad, if_true]
          | some q =>
            obtain ⟨t, r⟩ := q
            rw [hq] at hx
            obtain ⟨e1, e2, e3⟩ := hx
            rw [e1]
            simp only
            cases r with
            | nil =>
              have : (isM text (text.length - 0) false 62).2 = true := is_nil false 62 e2
              simp only [List.length_nil, Reads, this, part_bad, if_true]
            | cons g r2 =>
              obtain ⟨_, e4, e5⟩ := drop_cons e2
              simp only [List.length_cons] at e2 e3 e4 e5 ⊢
              rw [is_cons false 62 e2]
              by_cases h7 : g = 62
              case neg =>
                have : (!decide (g = 62) || false) = true := by simp [h7]
                rw [if_neg h7]
                simp only [Reads, this, part_bad, if_true]
              have hb1 : (!decide (g = 62) || false) = false := by simp [h7]
              rw [if_pos h7]
              simp only [hb1, part_good]
              have hy := hsub _ r2 e4 (by omega) (by omega)
              cases hq2 : rd n r2 with
              | none =>
                rw [hq2] at hy
                have hb : (nodeM text n (text.length - (r2.length + 1) + 1) false).2.2 = true := hy
                simp only [Reads, hb, if_true]
              | some q2 =>
                obtain ⟨t2, r3⟩ := q2
                rw [hq2] at hy
                obtain ⟨f1, f2, f3⟩ := hy
                rw [f1]
                simp only [Bool.false_eq_true, if_false]
                cases r3 with
                | nil =>
                  simp only [Reads]
                  exact is_nil false (c + 2) f2
                | cons z r4 =>
                  obtain ⟨_, f4, f5⟩ := drop_cons f2
                  simp only [List.length_cons] at f3 f4 f5 ⊢
                  simp only [List.length_cons] at f2
                  rw [is_cons false (c + 2) f2]
                  by_cases h8 : z = c + 2
                  · have e : text.length - (r4.length + 1) + 1 = text.length - r4.length := by omega
                    rw [if_pos h8]
                    refine ⟨?_, by rw [← e]; exact f4, by omega⟩
                    rw [h8, e]
                    simp [encN]
                  · rw [if_neg h8]
                    simp only [Reads, h8, decide_false, Bool.not_false, Bool.true_or]

/-- The term that a whole text is, if it is one and not too long. -/
def rdT (t : List UInt8) : Option T := if 80 < t.length then none else match rd (t.length + 1) t with | some (x, []) => some x | _ => none

theorem T_termOf : TT 64 = some (Tryd.f64, bodyOf Tryd.f64) := by kernel_rfl
theorem termOf_ev (t : List UInt8) (hl : t.length < 4611686018427387904) : EE 64 [S t] = some (match rdT t with | some x => encP x | none => nilP) := by
  refine EE_plain T_termOf (by decide) (Nat.le_of_ble_eq_true rfl) (by rfl) ?_
  rw [show opt 64 = [] from rfl]
  simp only [bodyOf, Tryd.f64, SA]
  by_cases h1 : 80 < t.length
  · have h2 : (80 : Int) < (t.length : Int) := by omega
    simp only [h1, h2, rdT, IA, PA, RA0, RA1, RA2, RA3, RA4, RA5, RA6, RA7, RA8, RA9, RA10, Nat.reduceAdd, Nat.reduceMul, Nat.reduceEqDiff, Nat.reduceLeDiff, Nat.reduceLT, Int.reduceToNat, Int.reduceLT, Int.reduceLE, Int.reduceEq, Int.reduceNeg, Int.reduceAdd, Int.reduceSub, Int.reduceMul, reduceIte]
  · have h2 : ¬ (80 : Int) < (t.length : Int) := by omega
    simp only [h1, h2, rdT, readTerm_ev (t.length + 1) t (Nat.lt_succ_self _) hl, IA, PA, RA0, RA1, RA2, RA3, RA4, RA5, RA6, RA7, RA8, RA9, RA10, Nat.reduceAdd, Nat.reduceMul, Nat.reduceEqDiff, Nat.reduceLeDiff, Nat.reduceLT, Int.reduceToNat, Int.reduceLT, Int.reduceLE, Int.reduceEq, Int.reduceNeg, Int.reduceAdd, Int.reduceSub, Int.reduceMul, reduceIte]
    cases hq : rd (t.length + 1) t with
    | none =>
      cases t with
      | nil => simp only [TMA, rdP, IA, PA, RA0, RA1, RA2, RA3, RA4, RA5, RA6, RA7, RA8, RA9, RA10, Nat.reduceAdd, Nat.reduceMul, Nat.reduceEqDiff, Nat.reduceLeDiff, Nat.reduceLT, Int.reduceToNat, Int.reduceLT, Int.reduceLE, Int.reduceEq, Int.reduceNeg, Int.reduceAdd, Int.reduceSub, Int.reduceMul, reduceIte]
      | cons c t => simp only [TMA, rdP, IA, PA, RA0, RA1, RA2, RA3, RA4, RA5, RA6, RA7, RA8, RA9, RA10, Nat.reduceAdd, Nat.reduceMul, Nat.reduceEqDiff, Nat.reduceLeDiff, Nat.reduceLT, Int.reduceToNat, Int.reduceLT, Int.reduceLE, Int.reduceEq, Int.reduceNeg, Int.reduceAdd, Int.reduceSub, Int.reduceMul, reduceIte]
    | some q =>
      obtain ⟨x, r⟩ := q
      cases r with
      | nil =>
        simp only [TMA, rdP, IA, PA, RA0, RA1, RA2, RA3, RA4, RA5, RA6, RA7, RA8, RA9, RA10, Nat.reduceAdd, Nat.reduceMul, Nat.reduceEqDiff, Nat.reduceLeDiff, Nat.reduceLT, Int.reduceToNat, Int.reduceLT, Int.reduceLE, Int.reduceEq, Int.reduceNeg, Int.reduceAdd, Int.reduceSub, Int.reduceMul, reduceIte]
        have := encP_closed x
        cases x <;> exact giveAll_p this
      | cons c r => simp only [TMA, rdP, IA, PA, RA0, RA1, RA2, RA3, RA4, RA5, RA6, RA7, RA8, RA9, RA10, Nat.reduceAdd, Nat.reduceMul, Nat.reduceEqDiff, Nat.reduceLeDiff, Nat.reduceLT, Int.reduceToNat, Int.reduceLT, Int.reduceLE, Int.reduceEq, Int.reduceNeg, Int.reduceAdd, Int.reduceSub, Int.reduceMul, reduceIte]

theorem T_l5Read : TT 66 = some (Tryd.f66, bodyOf Tryd.f66) := by kernel_rfl
theorem l5Read_ev (t : List UInt8) (hl : t.length < 4611686018427387904) : EE 66 [S t] = some (match rdT t with | some x => .t [.a (encN x), B true] | none => .t [.a zc, B false]) := by
  refine EE_plain T_l5Read (by decide) (Nat.le_of_ble_eq_true rfl) (by rfl) ?_
  rw [show opt 66 = [] from rfl]
  simp only [bodyOf, Tryd.f66, SA]
  simp only [IA, PA, RA0, RA1, RA2, RA3, RA4, RA5, RA6, RA7, RA8, RA9, RA10, Nat.reduceAdd, Nat.reduceMul, Nat.reduceEqDiff, Nat.reduceLeDiff, Nat.reduceLT, Int.reduceToNat, Int.reduceLT, Int.reduceLE, Int.reduceEq, Int.reduceNeg, Int.reduceAdd, Int.reduceSub, Int.reduceMul, reduceIte]
  have hn := node_ev t hl (t.length + 1) 0 (Nat.zero_le _) (by omega)
  have hr := nodeM_rd t (t.length + 1) 0 (Nat.zero_le _)
  have hok := (nodeM_ok t (t.length + 1) 0 false (Nat.zero_le _)).1
  rw [List.drop_zero] at hr
  rw [call_ob_v (by rfl) (by rfl) rfl rfl (show EE 94 [lent 102 [S t, .v (.int .i64 0), .v (.bool false)]] = _ from hn) rfl hok.cl (show 1 ≤ 4 by decide)]
  generalize nodeM t (t.length + 1) 0 false = x at hr hok
  obtain ⟨z, i, b⟩ := x
  simp only at hok
  have hzl := hok.len
  have hzf := hok.lf
  have t1 : z.take 3 = z := List.take_of_length_le (by omega)
  simp only [hzl, hzf, IA, PA, RA0, RA1, RA2, RA3, RA4, RA5, RA6, RA7, RA8, RA9, RA10, Nat.reduceAdd, Nat.reduceMul, Nat.reduceEqDiff, Nat.reduceLeDiff, Nat.reduceLT, Int.reduceToNat, Int.reduceLT, Int.reduceLE, Int.reduceEq, Int.reduceNeg, Int.reduceAdd, Int.reduceSub, Int.reduceMul, reduceIte]
  have hrd : rdT t = if 80 < t.length then none else match rd (t.length + 1) t with | some (x, []) => some x | _ => none := rfl
  cases hq : rd (t.length + 1) t with
  | none =>
    rw [hq] at hr hrd
    obtain rfl : b = true := hr
    have h0 : rdT t = none := by rw [hrd]; split <;> rfl
    simp only [h0, give_two, IA, PA, RA0, RA1, RA2, RA3, RA4, RA5, RA6, RA7, RA8, RA9, RA10, Nat.reduceAdd, Nat.reduceMul, Nat.reduceEqDiff, Nat.reduceLeDiff, Nat.reduceLT, Int.reduceToNat, Int.reduceLT, Int.reduceLE, Int.reduceEq, Int.reduceNeg, Int.reduceAdd, Int.reduceSub, Int.reduceMul, reduceIte]
    rfl
  | some q =>
    obtain ⟨tm, r⟩ := q
    rw [hq] at hr hrd
    obtain ⟨e1, e2, e3⟩ := hr
    simp only [Prod.mk.injEq] at e1
    obtain ⟨rfl, rfl, rfl⟩ := e1
    cases r with
    | cons c r =>
      have h0 : rdT t = none := by rw [hrd]; split <;> rfl
      have h1 : ¬ (((t.length - (r.length + 1) : Nat) : Int) = (t.length : Int)) := by
        simp only [List.length_cons] at e3
        omega
      simp only [h0, h1, give_two, IA, PA, RA0, RA1, RA2, RA3, RA4, RA5, RA6, RA7, RA8, RA9, RA10, Nat.reduceAdd, Nat.reduceMul, Nat.reduceEqDiff, Nat.reduceLeDiff, Nat.reduceLT, Int.reduceToNat, Int.reduceLT, Int.reduceLE, Int.reduceEq, Int.reduceNeg, Int.reduceAdd, Int.reduceSub, Int.reduceMul, reduceIte]
      rfl
    | nil =>
      by_cases h2 : 80 < t.length
      · have h0 : rdT t = none := by rw [hrd, if_pos h2]
        have h3 : (80 : Int) < (t.length : Int) := by omega
        simp only [h0, h3, Nat.sub_zero, give_two, IA, PA, RA0, RA1, RA2, RA3, RA4, RA5, RA6, RA7, RA8, RA9, RA10, Nat.reduceAdd, Nat.reduceMul, Nat.reduceEqDiff, Nat.reduceLeDiff, Nat.reduceLT, Int.reduceToNat, Int.reduceLT, Int.reduceLE, Int.reduceEq, Int.reduceNeg, Int.reduceAdd, Int.reduceSub, Int.reduceMul, reduceIte]
        rfl
      · have h0 : rdT t = some tm := by rw [hrd, if_neg h2]
        have h3 : ¬ (80 : Int) < (t.length : Int) := by omega
        simp only [h0, h3, Nat.sub_zero, hzl, hzf, t1, give_two, encN_closed, Nat.le_refl, IA, PA, RA0, RA1, RA2, RA3, RA4, RA5, RA6, RA7, RA8, RA9, RA10, Nat.reduceAdd, Nat.reduceMul, Nat.reduceEqDiff, Nat.reduceLeDiff, Nat.reduceLT, Int.reduceToNat, Int.reduceLT, Int.reduceLE, Int.reduceEq, Int.reduceNeg, Int.reduceAdd, Int.reduceSub, Int.reduceMul, reduceIte]
end
end Go.Proofs.YtkmnidbodlmaaaaDoor.Ev

/-
The instructions of a term: both lists are the same.
-/
namespace Go.Proofs.YtkmnidbodlmaaaaDoor.Ev
section
set_option linter.unusedVariables false
set_option linter.unusedSimpArgs false
open Go Go.RowKit
set_option linter.unusedVariables false
set_option linter.unusedSimpArgs false

/-- The instructions of a term. -/
def listT : T → List (List UInt8)
  | .dig c => [[c]]
  | .var c => [[c]]
  | .one s x => listT x ++ [[s]]
  | .two s x y => listT x ++ listT y ++ [[s]]
  | .loop s v x y => listT x ++ [[s, v]] ++ listT y ++ [[s + 2]]
/-- Terms as they are read. -/
def WF : T → Prop
  | .dig c => isDig c = true
  | .var c => isVar c = true
  | .one s x => isOne s = true ∧ WF x
  | .two s x y => isTwo s = true ∧ WF x ∧ WF y
  | .loop s v x y => (s = 91 ∨ s = 123) ∧ isLV v = true ∧ WF x ∧ WF y
theorem rd_wf : ∀ (n : Nat) (s : List UInt8) (t : T) (r : List UInt8), rd n s = some (t, r) → WF t ∧ (listT t).length + r.length ≤ s.length := by
  intro n
  induction n with
  | zero => intro s t r h; cases h
  | succ n ih =>
    intro s t r h
    cases s with
    | nil => cases h
    | cons c s =>
      simp only [rd] at h
      split at h
      · rename_i hv
        simp only [Option.some.injEq, Prod.mk.injEq] at h; obtain ⟨rfl, rfl⟩ := h
        exact ⟨hv, by simp [listT]; omega⟩
      split at h
      · rename_i hv
        simp only [Option.some.injEq, Prod.mk.injEq] at h; obtain ⟨rfl, rfl⟩ := h
        exact ⟨hv, by simp [listT]; omega⟩
      split at h
      · rename_i hv
        split at h
        · rename_i x r1 h1
          simp only [Option.some.injEq, Prod.mk.injEq] at h; obtain ⟨rfl, rfl⟩ := h
          have := ih _ _ _ h1
          exact ⟨⟨hv, this.1⟩, by simp [listT]; omega⟩
        · cases h
      split at h
      · unfold rdTwo at h
        split at h
        · rename_i x q r2 h1
          split at h
          · rename_i hv
            split at h
            · rename_i y z r4 h2
              split at h
              · simp only [Option.some.injEq, Prod.mk.injEq] at h; obtain ⟨rfl, rfl⟩ := h
                have k1 := ih _ _ _ h1
                have k2 := ih _ _ _ h2
                refine ⟨⟨hv, k1.1, k2.1⟩, ?_⟩
                simp only [listT, List.length_append, List.length_cons, List.length_nil] at *
                omega
              · cases h
            · cases h
          · cases h
        · cases h
      split at h
      · rename_i hc
        unfold rdLoop at h
        split at h
        · rename_i v d r1
          split at h
          · rename_i hv
            split at h
            · rename_i x q r2 h1
              split at h
              · split at h
                · rename_i y z r4 h2
                  split at h
                  · simp only [Option.some.injEq, Prod.mk.injEq] at h; obtain ⟨rfl, rfl⟩ := h
                    have k1 := ih _ _ _ h1
                    have k2 := ih _ _ _ h2
                    refine ⟨⟨hc, hv.1, k1.1, k2.1⟩, ?_⟩
                    simp only [listT, List.length_append, List.length_cons, List.length_nil] at *
                    omega
                  · cases h
                · cases h
              · cases h
            · cases h
          · cases h
        · cases h
      · cases h
theorem rdT_wf {t : List UInt8} {x : T} (h : rdT t = some x) : WF x ∧ (listT x).length ≤ 80 ∧ t.length ≤ 80 := by
  unfold rdT at h
  split at h
  · cases h
  · rename_i hl
    split at h
    · rename_i y hy
      obtain rfl := Option.some.inj h
      have := rd_wf _ _ _ _ hy
      simp only [List.length_nil] at this
      exact ⟨this.1, by omega, by omega⟩
    · cases h

theorem T_instructions : TT 65 = some (Tryd.f65, bodyOf Tryd.f65) := by kernel_rfl
theorem loop_enc (t : T) : EE 78 [encP t] = some (B (match t with | .loop .. => true | _ => false)) := by
  cases t with
  | dig c => exact loop_ev _ _ _ rfl
  | var c => exact loop_ev _ _ _ rfl
  | one s x => exact loop_ev _ _ _ (by simp only [closed, closedL, encP_closed, Bool.and_self])
  | two s x y => exact loop_ev _ _ _ (by simp only [closed, closedL, encP_closed, Bool.and_self])
  | loop s v x y => exact loop_ev _ _ _ (by simp only [closed, closedL, encP_closed, Bool.and_self])
set_option maxHeartbeats 4000000 in
theorem instructions_ev : ∀ t, WF t → (listT t).length ≤ 1000000 → EE 65 [encP t] = some (.o 9 1 (listT t).length (strs (listT t))) := by
  intro t
  induction t with
  | dig c =>
    intro hw hb
    refine EE_few 3 T_instructions (by decide) (Nat.le_of_ble_eq_true rfl) (by simp only [closedL, encP_closed, Bool.and_self]) ?_
    rw [show opt 65 = [] from rfl]
    simp only [bodyOf, Tryd.f65, SA]
    have hl := loop_enc (.dig c)
    simp only [encP] at hl ⊢
    simp only [hl, rounds_rd, RR, IA, PA, RA0, RA1, RA2, RA3, RA4, RA5, RA6, RA7, RA8, RA9, RA10, Nat.reduceAdd, Nat.reduceMul, Nat.reduceEqDiff, Nat.reduceLeDiff, Nat.reduceLT, Int.reduceToNat, Int.reduceLT, Int.reduceLE, Int.reduceEq, Int.reduceNeg, Int.reduceAdd, Int.reduceSub, Int.reduceMul, reduceIte]
    rw [app_s (by decide) rfl rfl rfl (by omega) (by omega) (.inl (by decide))]
    simp only [RR, IA, PA, RA0, RA1, RA2, RA3, RA4, RA5, RA6, RA7, RA8, RA9, RA10, Nat.reduceAdd, Nat.reduceMul, Nat.reduceEqDiff, Nat.reduceLeDiff, Nat.reduceLT, Int.reduceToNat, Int.reduceLT, Int.reduceLE, Int.reduceEq, Int.reduceNeg, Int.reduceAdd, Int.reduceSub, Int.reduceMul, reduceIte]
    exact give_row (by rfl) rfl
  | var c =>
    intro hw hb
    refine EE_few 3 T_instructions (by decide) (Nat.le_of_ble_eq_true rfl) (by simp only [closedL, encP_closed, Bool.and_self]) ?_
    rw [show opt 65 = [] from rfl]
    simp only [bodyOf, Tryd.f65, SA]
    have hl := loop_enc (.var c)
    simp only [encP] at hl ⊢
    simp only [hl, rounds_rd, RR, IA, PA, RA0, RA1, RA2, RA3, RA4, RA5, RA6, RA7, RA8, RA9, RA10, Nat.reduceAdd, Nat.reduceMul, Nat.reduceEqDiff, Nat.reduceLeDiff, Nat.reduceLT, Int.reduceToNat, Int.reduceLT, Int.reduceLE, Int.reduceEq, Int.reduceNeg, Int.reduceAdd, Int.reduceSub, Int.reduceMul, reduceIte]
    rw [app_s (by decide) rfl rfl rfl (by omega) (by omega) (.inl (by decide))]
    simp only [RR, IA, PA, RA0, RA1, RA2, RA3, RA4, RA5, RA6, RA7, RA8, RA9, RA10, Nat.reduceAdd, Nat.reduceMul, Nat.reduceEqDiff, Nat.reduceLeDiff, Nat.reduceLT, Int.reduceToNat, Int.reduceLT, Int.reduceLE, Int.reduceEq, Int.reduceNeg, Int.reduceAdd, Int.reduceSub, Int.reduceMul, reduceIte]
    exact give_row (by rfl) rfl
  | one s x ih =>
    intro hw hb
    refine EE_few 3 T_instructions (by decide) (Nat.le_of_ble_eq_true rfl) (by simp only [closedL, encP_closed, Bool.and_self]) ?_
    rw [show opt 65 = [] from rfl]
    simp only [bodyOf, Tryd.f65, SA]
    simp only [listT, List.length_append, List.length_cons, List.length_nil] at hb
    have hl := loop_enc (.one s x)
    have hx := ih hw.2 (by omega)
    simp only [encP] at hl ⊢
    simp only [hl, hx, rounds_rd, scW_row, encP_closed, RR, IA, PA, RA0, RA1, RA2, RA3, RA4, RA5, RA6, RA7, RA8, RA9, RA10, Nat.reduceAdd, Nat.reduceMul, Nat.reduceEqDiff, Nat.reduceLeDiff, Nat.reduceLT, Int.reduceToNat, Int.reduceLT, Int.reduceLE, Int.reduceEq, Int.reduceNeg, Int.reduceAdd, Int.reduceSub, Int.reduceMul, reduceIte]
    rw [app_s (by decide) (by simp only [strs_len, Nat.mul_one]) (strs_leaf _) rfl (by omega) (by omega) (.inr rfl)]
    simp only [hl, rounds_rd, encP_closed, RR, IA, PA, RA0, RA1, RA2, RA3, RA4, RA5, RA6, RA7, RA8, RA9, RA10, Nat.reduceAdd, Nat.reduceMul, Nat.reduceEqDiff, Nat.reduceLeDiff, Nat.reduceLT, Int.reduceToNat, Int.reduceLT, Int.reduceLE, Int.reduceEq, Int.reduceNeg, Int.reduceAdd, Int.reduceSub, Int.reduceMul, reduceIte]
    rw [app_w (by rfl) (by decide) rfl rfl (by simp only [strs_len, Nat.mul_one]) (by omega) (by omega) (by decide)]
    simp only [strs_one, strs_append, RR, IA, PA, RA0, RA1, RA2, RA3, RA4, RA5, RA6, RA7, RA8, RA9, RA10, Nat.reduceAdd, Nat.reduceMul, Nat.reduceEqDiff, Nat.reduceLeDiff, Nat.reduceLT, Int.reduceToNat, Int.reduceLT, Int.reduceLE, Int.reduceEq, Int.reduceNeg, Int.reduceAdd, Int.reduceSub, Int.reduceMul, reduceIte]
    rw [give_row (by rfl) (strs_closed _)]
    simp only [listT, List.length_append, List.length_cons, List.length_nil]
  | two s x y ihx ihy =>
    intro hw hb
    refine EE_few 3 T_instructions (by decide) (Nat.le_of_ble_eq_true rfl) (by simp only [closedL, encP_closed, Bool.and_self]) ?_
    rw [show opt 65 = [] from rfl]
    simp only [bodyOf, Tryd.f65, SA]
    simp only [listT, List.length_append, List.length_cons, List.length_nil] at hb
    have hl := loop_enc (.two s x y)
    have hx := ihx hw.2.1 (by omega)
    have hy := ihy hw.2.2 (by omega)
    simp only [encP] at hl ⊢
    simp only [hl, hx, rounds_rd, scW_row, encP_closed, RR, IA, PA, RA0, RA1, RA2, RA3, RA4, RA5, RA6, RA7, RA8, RA9, RA10, Nat.reduceAdd, Nat.reduceMul, Nat.reduceEqDiff, Nat.reduceLeDiff, Nat.reduceLT, Int.reduceToNat, Int.reduceLT, Int.reduceLE, Int.reduceEq, Int.reduceNeg, Int.reduceAdd, Int.reduceSub, Int.reduceMul, reduceIte]
    rw [app_s (by decide) (by simp only [strs_len, Nat.mul_one]) (strs_leaf _) rfl (by omega) (by omega) (.inr rfl)]
    simp only [hl, hy, rounds_rd, scW_row, encP_closed, RR, IA, PA, RA0, RA1, RA2, RA3, RA4, RA5, RA6, RA7, RA8, RA9, RA10, Nat.reduceAdd, Nat.reduceMul, Nat.reduceEqDiff, Nat.reduceLeDiff, Nat.reduceLT, Int.reduceToNat, Int.reduceLT, Int.reduceLE, Int.reduceEq, Int.reduceNeg, Int.reduceAdd, Int.reduceSub, Int.reduceMul, reduceIte]
    rw [app_w (by rfl) (by decide) (by simp only [strs_len, Nat.mul_one]) (strs_leaf _) (by simp only [strs_len, Nat.mul_one]) (by omega) (by omega) (by decide)]
    simp only [hl, rounds_rd, encP_closed, RR, IA, PA, RA0, RA1, RA2, RA3, RA4, RA5, RA6, RA7, RA8, RA9, RA10, Nat.reduceAdd, Nat.reduceMul, Nat.reduceEqDiff, Nat.reduceLeDiff, Nat.reduceLT, Int.reduceToNat, Int.reduceLT, Int.reduceLE, Int.reduceEq, Int.reduceNeg, Int.reduceAdd, Int.reduceSub, Int.reduceMul, reduceIte]
    rw [app_w (by rfl) (by decide) rfl rfl (by simp only [List.length_append, strs_len, Nat.mul_one]) (by omega) (by omega) (by decide)]
    simp only [strs_one, strs_append, RR, IA, PA, RA0, RA1, RA2, RA3, RA4, RA5, RA6, RA7, RA8, RA9, RA10, Nat.reduceAdd, Nat.reduceMul, Nat.reduceEqDiff, Nat.reduceLeDiff, Nat.reduceLT, Int.reduceToNat, Int.reduceLT, Int.reduceLE, Int.reduceEq, Int.reduceNeg, Int.reduceAdd, Int.reduceSub, Int.reduceMul, reduceIte]
    rw [give_row (by rfl) (strs_closed _)]
    simp only [listT, List.length_append, List.length_cons, List.length_nil]
  | loop s v x y ihx ihy =>
    intro hw hb
    refine EE_few 3 T_instructions (by decide) (Nat.le_of_ble_eq_true rfl) (by simp only [closedL, encP_closed, Bool.and_self]) ?_
    rw [show opt 65 = [] from rfl]
    simp only [bodyOf, Tryd.f65, SA]
    simp only [listT, List.length_append, List.length_cons, List.length_nil] at hb
    have hl := loop_enc (.loop s v x y)
    have hx := ihx hw.2.2.1 (by omega)
    have hy := ihy hw.2.2.2 (by omega)
    have he : EE 79 [S [s]] = some (S [s + 2]) := by
      rw [ends_ev]
      rcases hw.1 with h | h <;> rw [h] <;> rfl
    simp only [encP] at hl ⊢
    simp only [hl, hx, rounds_rd, scW_row, encP_closed, RR, IA, PA, RA0, RA1, RA2, RA3, RA4, RA5, RA6, RA7, RA8, RA9, RA10, Nat.reduceAdd, Nat.reduceMul, Nat.reduceEqDiff, Nat.reduceLeDiff, Nat.reduceLT, Int.reduceToNat, Int.reduceLT, Int.reduceLE, Int.reduceEq, Int.reduceNeg, Int.reduceAdd, Int.reduceSub, Int.reduceMul, reduceIte]
    rw [app_s (by decide) (by simp only [strs_len, Nat.mul_one]) (strs_leaf _) rfl (by omega) (by omega) (.inr rfl)]
    simp only [hl, hy, str_add, rounds_rd, scW_row, encP_closed, RR, IA, PA, RA0, RA1, RA2, RA3, RA4, RA5, RA6, RA7, RA8, RA9, RA10, Nat.reduceAdd, Nat.reduceMul, Nat.reduceEqDiff, Nat.reduceLeDiff, Nat.reduceLT, Int.reduceToNat, Int.reduceLT, Int.reduceLE, Int.reduceEq, Int.reduceNeg, Int.reduceAdd, Int.reduceSub, Int.reduceMul, reduceIte]
    rw [app_w (by rfl) (by decide) rfl rfl (by simp only [strs_len, Nat.mul_one]) (by omega) (by omega) (by decide)]
    simp only [hl, hy, str_add, rounds_rd, scW_row, encP_closed, RR, IA, PA, RA0, RA1, RA2, RA3, RA4, RA5, RA6, RA7, RA8, RA9, RA10, Nat.reduceAdd, Nat.reduceMul, Nat.reduceEqDiff, Nat.reduceLeDiff, Nat.reduceLT, Int.reduceToNat, Int.reduceLT, Int.reduceLE, Int.reduceEq, Int.reduceNeg, Int.reduceAdd, Int.reduceSub, Int.reduceMul, reduceIte]
    rw [app_w (by rfl) (by decide) (by simp only [strs_len, Nat.mul_one]) (strs_leaf _) (by simp only [List.length_append, List.length_cons, List.length_nil, strs_len, Nat.mul_one]) (by omega) (by omega) (by decide)]
    simp only [hl, he, rounds_rd, encP_closed, RR, IA, PA, RA0, RA1, RA2, RA3, RA4, RA5, RA6, RA7, RA8, RA9, RA10, Nat.reduceAdd, Nat.reduceMul, Nat.reduceEqDiff, Nat.reduceLeDiff, Nat.reduceLT, Int.reduceToNat, Int.reduceLT, Int.reduceLE, Int.reduceEq, Int.reduceNeg, Int.reduceAdd, Int.reduceSub, Int.reduceMul, reduceIte]
    rw [app_w (by rfl) (by decide) rfl rfl (by simp only [List.length_append, List.length_cons, List.length_nil, strs_len, Nat.mul_one]) (by omega) (by omega) (by decide)]
    simp only [strs_one, strs_append, RR, IA, PA, RA0, RA1, RA2, RA3, RA4, RA5, RA6, RA7, RA8, RA9, RA10, Nat.reduceAdd, Nat.reduceMul, Nat.reduceEqDiff, Nat.reduceLeDiff, Nat.reduceLT, Int.reduceToNat, Int.reduceLT, Int.reduceLE, Int.reduceEq, Int.reduceNeg, Int.reduceAdd, Int.reduceSub, Int.reduceMul, reduceIte]
    rw [give_row (by rfl) (strs_closed _)]
    simp only [listT, List.length_append, List.length_cons, List.length_nil]
end
end Go.Proofs.YtkmnidbodlmaaaaDoor.Ev

/-
The text of a term: both texts are the same, and reading gives the term back.
-/
namespace Go.Proofs.YtkmnidbodlmaaaaDoor.Ev
section
set_option linter.unusedVariables false
set_option linter.unusedSimpArgs false
open Go Go.RowKit
set_option linter.unusedVariables false
set_option linter.unusedSimpArgs false

def textT : T → List UInt8
  | .dig c => [c]
  | .var c => [c]
  | .one s x => s :: textT x
  | .two s x y => 40 :: (textT x ++ (s :: (textT y ++ [41])))
  | .loop s v x y => s :: v :: 58 :: (textT x ++ (62 :: (textT y ++ [s + 2])))

theorem rd_text : ∀ (n : Nat) (s : List UInt8) (t : T) (r : List UInt8), rd n s = some (t, r) → s = textT t ++ r := by
  intro n
  induction n with
  | zero => intro s t r h; cases h
  | succ n ih =>
    intro s t r h
    cases s with
    | nil => cases h
    | cons c s =>
      simp only [rd] at h
      split at h
      · simp only [Option.some.injEq, Prod.mk.injEq] at h; obtain ⟨rfl, rfl⟩ := h; rfl
      split at h
      · simp only [Option.some.injEq, Prod.mk.injEq] at h; obtain ⟨rfl, rfl⟩ := h; rfl
      split at h
      · split at h
        · rename_i x r1 h1
          simp only [Option.some.injEq, Prod.mk.injEq] at h; obtain ⟨rfl, rfl⟩ := h
          rw [ih _ _ _ h1]
          rfl
        · cases h
      split at h
      · rename_i hc
        unfold rdTwo at h
        split at h
        · rename_i x q r2 h1
          split at h
          · split at h
            · rename_i y z r4 h2
              split at h
              · rename_i hz
                simp only [Option.some.injEq, Prod.mk.injEq] at h; obtain ⟨rfl, rfl⟩ := h
                rw [ih _ _ _ h1, ih _ _ _ h2, hc, hz]
                simp [textT]
              · cases h
            · cases h
          · cases h
        · cases h
      split at h
      · unfold rdLoop at h
        split at h
        · rename_i v d r1
          split at h
          · rename_i hv
            split at h
            · rename_i x q r2 h1
              split at h
              · rename_i hq
                split at h
                · rename_i y z r4 h2
                  split at h
                  · rename_i hz
                    simp only [Option.some.injEq, Prod.mk.injEq] at h; obtain ⟨rfl, rfl⟩ := h
                    rw [ih _ _ _ h1, ih _ _ _ h2, hv.2, hq, hz]
                    simp [textT]
                  · cases h
                · cases h
              · cases h
            · cases h
          · cases h
        · cases h
      · cases h

theorem one_not {c : UInt8} (h : isOne c = true) : isVar c = false ∧ isDig c = false := by
  have h2 : c = 83 ∨ c = 77 ∨ c = 73 ∨ c = 78 ∨ c = 82 ∨ c = 67 ∨ c = 80 := by simpa [isOne] using h
  rcases h2 with rfl | rfl | rfl | rfl | rfl | rfl | rfl <;> exact ⟨rfl, rfl⟩
theorem rd_of : ∀ (t : T), WF t → ∀ (n : Nat) (r : List UInt8), (textT t).length ≤ n → rd n (textT t ++ r) = some (t, r) := by
  intro t
  induction t with
  | dig c =>
    intro hw n r hn
    obtain ⟨m, rfl⟩ : ∃ m, n = m + 1 := ⟨n - 1, by simp [textT] at hn; omega⟩
    have hw : isDig c = true := hw
    simp [textT, rd, dig_not_var hw, hw]
  | var c =>
    intro hw n r hn
    obtain ⟨m, rfl⟩ : ∃ m, n = m + 1 := ⟨n - 1, by simp [textT] at hn; omega⟩
    have hw : isVar c = true := hw
    simp [textT, rd, hw]
  | one s x ih =>
    intro hw n r hn
    simp only [textT, List.length_cons] at hn
    obtain ⟨m, rfl⟩ : ∃ m, n = m + 1 := ⟨n - 1, by omega⟩
    obtain ⟨h1, h2⟩ := one_not hw.1
    simp [textT, rd, h1, h2, hw.1, ih hw.2 m r (by omega)]
  | two s x y ihx ihy =>
    intro hw n r hn
    simp only [textT, List.length_cons, List.length_append, List.length_nil] at hn
    obtain ⟨m, rfl⟩ : ∃ m, n = m + 1 := ⟨n - 1, by omega⟩
    have h1 : isVar 40 = false := rfl
    have h2 : isDig 40 = false := rfl
    have h3 : isOne 40 = false := rfl
    have e1 := ihx hw.2.1 m (s :: (textT y ++ (41 :: r))) (by omega)
    have e2 := ihy hw.2.2 m (41 :: r) (by omega)
    simp [textT, rd, rdTwo, h1, h2, h3, e1, e2, hw.1]
  | loop s v x y ihx ihy =>
    intro hw n r hn
    simp only [textT, List.length_cons, List.length_append, List.length_nil] at hn
    obtain ⟨m, rfl⟩ : ∃ m, n = m + 1 := ⟨n - 1, by omega⟩
    have hs : isVar s = false ∧ isDig s = false ∧ isOne s = false ∧ s ≠ 40 := by rcases hw.1 with h | h <;> rw [h] <;> decide
    have e1 := ihx hw.2.2.1 m (62 :: (textT y ++ ((s + 2) :: r))) (by omega)
    have e2 := ihy hw.2.2.2 m ((s + 2) :: r) (by omega)
    simp [textT, rd, rdLoop, hs.1, hs.2.1, hs.2.2.1, hs.2.2.2, hw.1, hw.2.1, e1, e2]
theorem rdT_text {t : List UInt8} {x : T} (h : rdT t = some x) : t = textT x := by
  unfold rdT at h
  split at h
  · cases h
  · split at h
    · rename_i y hy
      obtain rfl := Option.some.inj h
      simpa using rd_text _ _ _ _ hy
    · cases h
theorem rdT_of {x : T} (hw : WF x) (hl : (textT x).length ≤ 80) : rdT (textT x) = some x := by
  unfold rdT
  rw [if_neg (by omega)]
  have := rd_of x hw ((textT x).length + 1) [] (by omega)
  rw [List.append_nil] at this
  rw [this]

/-- A pointer to a term, however its parts' slices were made. -/
inductive IsP : AV → T → Prop
  | dig (ex : Bool) (c : UInt8) : IsP (.p [S [c], S [], .s ex 0 []]) (.dig c)
  | var (ex : Bool) (c : UInt8) : IsP (.p [S [c], S [], .s ex 0 []]) (.var c)
  | one (ex : Bool) (s : UInt8) {a : AV} {x : T} (h : IsP a x) : IsP (.p [S [s], S [], .s ex 1 [a]]) (.one s x)
  | two (ex : Bool) (s : UInt8) {a b : AV} {x y : T} (h : IsP a x) (k : IsP b y) : IsP (.p [S [s], S [], .s ex 2 [a, b]]) (.two s x y)
  | loop (ex : Bool) (s v : UInt8) {a b : AV} {x y : T} (h : IsP a x) (k : IsP b y) : IsP (.p [S [s], S [v], .s ex 2 [a, b]]) (.loop s v x y)
theorem encP_is : ∀ t, IsP (encP t) t
  | .dig c => .dig true c
  | .var c => .var true c
  | .one s x => .one true s (encP_is x)
  | .two s x y => .two true s (encP_is x) (encP_is y)
  | .loop s v x y => .loop true s v (encP_is x) (encP_is y)
theorem IsP.closed {a : AV} {t : T} (h : IsP a t) : Ev.closed a = true := by
  induction h with
  | dig => rfl
  | var => rfl
  | one ex s h ih => simp only [Ev.closed, closedL, ih, Bool.and_self]
  | two ex s h k ih ik => simp only [Ev.closed, closedL, ih, ik, Bool.and_self]
  | loop ex s v h k ih ik => simp only [Ev.closed, closedL, ih, ik, Bool.and_self]
theorem IsP.leaf {a : AV} {t : T} (h : IsP a t) : leaves a = some [a] ∧ leafOk a = true := by cases h <;> exact ⟨rfl, rfl⟩
theorem IsP.ptr {a : AV} {t : T} (h : IsP a t) (op : BinOp) (q : Nat) : bin op (.ptr q) a nilP = eqB op false := by cases h <;> rfl

def isLoop : T → Bool
  | .loop .. => true
  | _ => false
theorem loop_is {a : AV} {t : T} (h : IsP a t) : EE 78 [a] = some (B (isLoop t)) := by
  cases h with
  | dig ex c => exact loop_ev _ _ _ rfl
  | var ex c => exact loop_ev _ _ _ rfl
  | one ex s h => exact loop_ev _ _ _ (by simp only [closed, closedL, h.closed, Bool.and_self])
  | two ex s h k => exact loop_ev _ _ _ (by simp only [closed, closedL, h.closed, k.closed, Bool.and_self])
  | loop ex s v h k => exact loop_ev _ _ _ (by simp only [closed, closedL, h.closed, k.closed, Bool.and_self])
theorem str_addIf (a b : List UInt8) : strBin .add ⟨List.toArray a⟩ ⟨List.toArray b⟩ = if a.length + b.length ≤ 9223372036854775807 then some (S (a ++ b)) else none := by
  simp only [strBin, size_mk, append_mk]

/-- Signs of loops as they are. -/
def WFL : T → Prop
  | .dig _ => True
  | .var _ => True
  | .one _ x => WFL x
  | .two _ x y => WFL x ∧ WFL y
  | .loop s _ x y => (s = 91 ∨ s = 123) ∧ WFL x ∧ WFL y
theorem WF.l : ∀ {t : T}, WF t → WFL t
  | .dig _, _ => trivial
  | .var _, _ => trivial
  | .one _ x, h => WF.l (t := x) h.2
  | .two _ x y, h => ⟨WF.l (t := x) h.2.1, WF.l (t := y) h.2.2⟩
  | .loop _ _ x y, h => ⟨h.1, WF.l (t := x) h.2.2.1, WF.l (t := y) h.2.2.2⟩
theorem T_text : TT 51 = some (Tryd.f51, bodyOf Tryd.f51) := by kernel_rfl
set_option maxHeartbeats 4000000 in
theorem text_evL {a : AV} {t : T} (h : IsP a t) : WFL t → (textT t).length ≤ 1000000 → EE 51 [a] = some (S (textT t)) := by
  induction h with
  | dig ex c =>
    intro hw hb
    have hl := loop_is (.dig ex c)
    refine EE_plain T_text (by decide) (Nat.le_of_ble_eq_true rfl) rfl ?_
    rw [show opt 51 = [] from rfl]
    simp only [bodyOf, Tryd.f51, SA]
    simp only [hl, isLoop, textT, RR, IA, PA, RA0, RA1, RA2, RA3, RA4, RA5, RA6, RA7, RA8, RA9, RA10, Nat.reduceAdd, Nat.reduceMul, Nat.reduceEqDiff, Nat.reduceLeDiff, Nat.reduceLT, Int.reduceToNat, Int.reduceLT, Int.reduceLE, Int.reduceEq, Int.reduceNeg, Int.reduceAdd, Int.reduceSub, Int.reduceMul, reduceIte]
  | var ex c =>
    intro hw hb
    have hl := loop_is (.var ex c)
    refine EE_plain T_text (by decide) (Nat.le_of_ble_eq_true rfl) rfl ?_
    rw [show opt 51 = [] from rfl]
    simp only [bodyOf, Tryd.f51, SA]
    simp only [hl, isLoop, textT, RR, IA, PA, RA0, RA1, RA2, RA3, RA4, RA5, RA6, RA7, RA8, RA9, RA10, Nat.reduceAdd, Nat.reduceMul, Nat.reduceEqDiff, Nat.reduceLeDiff, Nat.reduceLT, Int.reduceToNat, Int.reduceLT, Int.reduceLE, Int.reduceEq, Int.reduceNeg, Int.reduceAdd, Int.reduceSub, Int.reduceMul, reduceIte]
  | @one ex s a x h ih =>
    intro hw hb
    simp only [textT, List.length_cons, List.length_append, List.length_nil] at hb
    have hl := loop_is (.one ex s h)
    have hx := ih hw (by omega)
    refine EE_plain T_text (by decide) (Nat.le_of_ble_eq_true rfl) (by simp only [closedL, closed, h.closed, Bool.and_self]) ?_
    rw [show opt 51 = [] from rfl]
    simp only [bodyOf, Tryd.f51, SA]
    simp only [hl, hx, h.closed, isLoop, str_addIf, textT, RR, IA, PA, RA0, RA1, RA2, RA3, RA4, RA5, RA6, RA7, RA8, RA9, RA10, Nat.reduceAdd, Nat.reduceMul, Nat.reduceEqDiff, Nat.reduceLeDiff, Nat.reduceLT, Int.reduceToNat, Int.reduceLT, Int.reduceLE, Int.reduceEq, Int.reduceNeg, Int.reduceAdd, Int.reduceSub, Int.reduceMul, reduceIte]
    rw [if_pos (by omega)]
  | @two ex s a b x y h k ihx ihy =>
    intro hw hb
    simp only [textT, List.length_cons, List.length_append, List.length_nil] at hb
    have hl := loop_is (.two ex s h k)
    have hx := ihx hw.1 (by omega)
    have hy := ihy hw.2 (by omega)
    refine EE_plain T_text (by decide) (Nat.le_of_ble_eq_true rfl) (by simp only [closedL, closed, h.closed, k.closed, Bool.and_self]) ?_
    rw [show opt 51 = [] from rfl]
    simp only [bodyOf, Tryd.f51, SA]
    simp only [hl, hx, hy, h.closed, k.closed, isLoop, str_addIf, textT, List.length_append, List.append_assoc, RR, IA, PA, RA0, RA1, RA2, RA3, RA4, RA5, RA6, RA7, RA8, RA9, RA10, Nat.reduceAdd, Nat.reduceMul, Nat.reduceEqDiff, Nat.reduceLeDiff, Nat.reduceLT, Int.reduceToNat, Int.reduceLT, Int.reduceLE, Int.reduceEq, Int.reduceNeg, Int.reduceAdd, Int.reduceSub, Int.reduceMul, reduceIte]
    repeat rw [if_pos (by omega)]
  | @loop ex s v a b x y h k ihx ihy =>
    intro hw hb
    simp only [textT, List.length_cons, List.length_append, List.length_nil] at hb
    have hl := loop_is (.loop ex s v h k)
    have hx := ihx hw.2.1 (by omega)
    have hy := ihy hw.2.2 (by omega)
    have he : EE 79 [S [s]] = some (S [s + 2]) := by
      rw [ends_ev]
      rcases hw.1 with h | h <;> rw [h] <;> rfl
    refine EE_plain T_text (by decide) (Nat.le_of_ble_eq_true rfl) (by simp only [closedL, closed, h.closed, k.closed, Bool.and_self]) ?_
    rw [show opt 51 = [] from rfl]
    simp only [bodyOf, Tryd.f51, SA]
    simp only [hl, hx, hy, he, h.closed, k.closed, isLoop, str_addIf, textT, List.length_append, List.append_assoc, RR, IA, PA, RA0, RA1, RA2, RA3, RA4, RA5, RA6, RA7, RA8, RA9, RA10, Nat.reduceAdd, Nat.reduceMul, Nat.reduceEqDiff, Nat.reduceLeDiff, Nat.reduceLT, Int.reduceToNat, Int.reduceLT, Int.reduceLE, Int.reduceEq, Int.reduceNeg, Int.reduceAdd, Int.reduceSub, Int.reduceMul, reduceIte]
    repeat rw [if_pos (by omega)]

theorem text_ev {a : AV} {t : T} (h : IsP a t) (hw : WF t) (hl : (textT t).length ≤ 1000000) : EE 51 [a] = some (S (textT t)) := text_evL h hw.l hl

theorem T_l5Text : TT 45 = some (Tryd.f45, bodyOf Tryd.f45) := by kernel_rfl
set_option maxHeartbeats 4000000 in
theorem l5Text_ev : ∀ t, WF t → (textT t).length ≤ 1000000 → EE 45 [.a (encN t)] = some (S (textT t)) := by
  intro t
  induction t with
  | dig c =>
    intro hw hb
    refine EE_plain T_l5Text (by decide) (Nat.le_of_ble_eq_true rfl) (by simp only [closedL, closed, encN_closed, Bool.and_self]) ?_
    rw [show opt 45 = [] from rfl]
    simp only [bodyOf, Tryd.f45, SA]
    simp only [encN, textT, TMA, RR, IA, PA, RA0, RA1, RA2, RA3, RA4, RA5, RA6, RA7, RA8, RA9, RA10, Nat.reduceAdd, Nat.reduceMul, Nat.reduceEqDiff, Nat.reduceLeDiff, Nat.reduceLT, Int.reduceToNat, Int.reduceLT, Int.reduceLE, Int.reduceEq, Int.reduceNeg, Int.reduceAdd, Int.reduceSub, Int.reduceMul, reduceIte]
  | var c =>
    intro hw hb
    refine EE_plain T_l5Text (by decide) (Nat.le_of_ble_eq_true rfl) (by simp only [closedL, closed, encN_closed, Bool.and_self]) ?_
    rw [show opt 45 = [] from rfl]
    simp only [bodyOf, Tryd.f45, SA]
    simp only [encN, textT, TMA, RR, IA, PA, RA0, RA1, RA2, RA3, RA4, RA5, RA6, RA7, RA8, RA9, RA10, Nat.reduceAdd, Nat.reduceMul, Nat.reduceEqDiff, Nat.reduceLeDiff, Nat.reduceLT, Int.reduceToNat, Int.reduceLT, Int.reduceLE, Int.reduceEq, Int.reduceNeg, Int.reduceAdd, Int.reduceSub, Int.reduceMul, reduceIte]
  | one s x ih =>
    intro hw hb
    simp only [textT, List.length_cons, List.length_append, List.length_nil] at hb
    have hx := ih hw.2 (by omega)
    refine EE_plain T_l5Text (by decide) (Nat.le_of_ble_eq_true rfl) (by simp only [closedL, closed, encN_closed, Bool.and_self]) ?_
    rw [show opt 45 = [] from rfl]
    simp only [bodyOf, Tryd.f45, SA]
    simp only [encN, textT, hx, str_addIf, TMA, RR, IA, PA, RA0, RA1, RA2, RA3, RA4, RA5, RA6, RA7, RA8, RA9, RA10, Nat.reduceAdd, Nat.reduceMul, Nat.reduceEqDiff, Nat.reduceLeDiff, Nat.reduceLT, Int.reduceToNat, Int.reduceLT, Int.reduceLE, Int.reduceEq, Int.reduceNeg, Int.reduceAdd, Int.reduceSub, Int.reduceMul, reduceIte]
    rw [if_pos (by omega)]
  | two s x y ihx ihy =>
    intro hw hb
    simp only [textT, List.length_cons, List.length_append, List.length_nil] at hb
    have hx := ihx hw.2.1 (by omega)
    have hy := ihy hw.2.2 (by omega)
    refine EE_plain T_l5Text (by decide) (Nat.le_of_ble_eq_true rfl) (by simp only [closedL, closed, encN_closed, Bool.and_self]) ?_
    rw [show opt 45 = [] from rfl]
    simp only [bodyOf, Tryd.f45, SA]
    simp only [encN, textT, hx, hy, str_addIf, List.length_append, List.append_assoc, TMA, RR, IA, PA, RA0, RA1, RA2, RA3, RA4, RA5, RA6, RA7, RA8, RA9, RA10, Nat.reduceAdd, Nat.reduceMul, Nat.reduceEqDiff, Nat.reduceLeDiff, Nat.reduceLT, Int.reduceToNat, Int.reduceLT, Int.reduceLE, Int.reduceEq, Int.reduceNeg, Int.reduceAdd, Int.reduceSub, Int.reduceMul, reduceIte]
    repeat rw [if_pos (by omega)]
  | loop s v x y ihx ihy =>
    intro hw hb
    simp only [textT, List.length_cons, List.length_append, List.length_nil] at hb
    have hx := ihx hw.2.2.1 (by omega)
    have hy := ihy hw.2.2.2 (by omega)
    have hv0 : ¬ ((v.toNat : Int) = 0) := by
      have := hw.2.1
      simp only [isLV, Bool.and_eq_true, decide_eq_true_iff] at this
      omega
    have hs2 : IntKind.u8.wrap ((s.toNat : Int) + 2) = ((s + 2).toNat : Int) := by rcases hw.1 with h | h <;> rw [h] <;> rfl
    refine EE_plain T_l5Text (by decide) (Nat.le_of_ble_eq_true rfl) (by simp only [closedL, closed, encN_closed, Bool.and_self]) ?_
    rw [show opt 45 = [] from rfl]
    simp only [bodyOf, Tryd.f45, SA]
    simp only [encN, textT, hx, hy, hv0, hs2, str_addIf, List.length_append, List.append_assoc, TMA, RR, IA, PA, RA0, RA1, RA2, RA3, RA4, RA5, RA6, RA7, RA8, RA9, RA10, Nat.reduceAdd, Nat.reduceMul, Nat.reduceEqDiff, Nat.reduceLeDiff, Nat.reduceLT, Int.reduceToNat, Int.reduceLT, Int.reduceLE, Int.reduceEq, Int.reduceNeg, Int.reduceAdd, Int.reduceSub, Int.reduceMul, reduceIte]
    repeat rw [if_pos (by omega)]
end
end Go.Proofs.YtkmnidbodlmaaaaDoor.Ev

/-
Code: kinds of instructions.
-/
namespace Go.Proofs.YtkmnidbodlmaaaaDoor.Ev
section
set_option linter.unusedVariables false
set_option linter.unusedSimpArgs false
open Go Go.RowKit
set_option linter.unusedVariables false
set_option linter.unusedSimpArgs false

/-- What an instruction is: begin of a loop. -/
def begM (l : List UInt8) : Bool := match l with
  | [a, _] => decide (a = 91) || decide (a = 123)
  | _ => false
def endM (l : List UInt8) : Bool := match l with
  | [a] => decide (a = 93) || decide (a = 125)
  | _ => false
def arM (l : List UInt8) : Int := match l with
  | [a] => if isOne a = true then 1 else if isTwo a = true then 2 else 0
  | _ => 0
theorem T_begins : TT 47 = some (Tryd.f47, bodyOf Tryd.f47) := by kernel_rfl
theorem begins_ev (l : List UInt8) : EE 47 [S l] = some (B (begM l)) := by
  refine EE_plain T_begins (by decide) (Nat.le_of_ble_eq_true rfl) rfl ?_
  rw [show opt 47 = [] from rfl]
  simp only [bodyOf, Tryd.f47, SA]
  rcases l with _ | ⟨a, _ | ⟨b, _ | ⟨d, l⟩⟩⟩
  · simp only [begM, IA, PA, RA0, RA1, RA2, RA3, RA4, RA5, RA6, RA7, RA8, RA9, RA10, Nat.reduceAdd, Nat.reduceMul, Nat.reduceEqDiff, Nat.reduceLeDiff, Nat.reduceLT, Int.reduceToNat, Int.reduceLT, Int.reduceLE, Int.reduceEq, Int.reduceNeg, Int.reduceAdd, Int.reduceSub, Int.reduceMul, reduceIte]
  · simp only [begM, IA, PA, RA0, RA1, RA2, RA3, RA4, RA5, RA6, RA7, RA8, RA9, RA10, Nat.reduceAdd, Nat.reduceMul, Nat.reduceEqDiff, Nat.reduceLeDiff, Nat.reduceLT, Int.reduceToNat, Int.reduceLT, Int.reduceLE, Int.reduceEq, Int.reduceNeg, Int.reduceAdd, Int.reduceSub, Int.reduceMul, reduceIte]
  · have e1 : decide ((a.toNat : Int) = 91) = decide (a = 91) := eq_nat a 91
    have e2 : decide ((a.toNat : Int) = 123) = decide (a = 123) := eq_nat a 123
    simp only [begM]
    generalize hx : decide (a = 91) = x
    generalize hy : decide (a = 123) = y
    cases x <;> simp only [e1, e2, hx, hy, IA, PA, RA0, RA1, RA2, RA3, RA4, RA5, RA6, RA7, RA8, RA9, RA10, Nat.reduceAdd, Nat.reduceMul, Nat.reduceEqDiff, Nat.reduceLeDiff, Nat.reduceLT, Int.reduceToNat, Int.reduceLT, Int.reduceLE, Int.reduceEq, Int.reduceNeg, Int.reduceAdd, Int.reduceSub, Int.reduceMul, reduceIte]
  · have : ¬ (((l.length + 1 + 1 + 1 : Nat) : Int) = 2) := by omega
    simp only [begM, this, IA, PA, RA0, RA1, RA2, RA3, RA4, RA5, RA6, RA7, RA8, RA9, RA10, Nat.reduceAdd, Nat.reduceMul, Nat.reduceEqDiff, Nat.reduceLeDiff, Nat.reduceLT, Int.reduceToNat, Int.reduceLT, Int.reduceLE, Int.reduceEq, Int.reduceNeg, Int.reduceAdd, Int.reduceSub, Int.reduceMul, reduceIte]
theorem T_isEnd : TT 48 = some (Tryd.f48, bodyOf Tryd.f48) := by kernel_rfl
theorem isEnd_ev (l : List UInt8) : EE 48 [S l] = some (B (endM l)) := by
  refine EE_plain T_isEnd (by decide) (Nat.le_of_ble_eq_true rfl) rfl ?_
  rw [show opt 48 = [] from rfl]
  simp only [bodyOf, Tryd.f48, SA]
  rcases l with _ | ⟨a, _ | ⟨b, l⟩⟩
  · simp only [endM, TMA, IA, PA, RA0, RA1, RA2, RA3, RA4, RA5, RA6, RA7, RA8, RA9, RA10, Nat.reduceAdd, Nat.reduceMul, Nat.reduceEqDiff, Nat.reduceLeDiff, Nat.reduceLT, Int.reduceToNat, Int.reduceLT, Int.reduceLE, Int.reduceEq, Int.reduceNeg, Int.reduceAdd, Int.reduceSub, Int.reduceMul, reduceIte]
  · simp only [endM]
    generalize hx : decide (a = 93) = x
    generalize hy : decide (a = 125) = y
    cases x <;> simp only [hx, hy, TMA, IA, PA, RA0, RA1, RA2, RA3, RA4, RA5, RA6, RA7, RA8, RA9, RA10, Nat.reduceAdd, Nat.reduceMul, Nat.reduceEqDiff, Nat.reduceLeDiff, Nat.reduceLT, Int.reduceToNat, Int.reduceLT, Int.reduceLE, Int.reduceEq, Int.reduceNeg, Int.reduceAdd, Int.reduceSub, Int.reduceMul, reduceIte]
  · simp only [endM, TMA, IA, PA, RA0, RA1, RA2, RA3, RA4, RA5, RA6, RA7, RA8, RA9, RA10, Nat.reduceAdd, Nat.reduceMul, Nat.reduceEqDiff, Nat.reduceLeDiff, Nat.reduceLT, Int.reduceToNat, Int.reduceLT, Int.reduceLE, Int.reduceEq, Int.reduceNeg, Int.reduceAdd, Int.reduceSub, Int.reduceMul, reduceIte]
theorem contains_nil (l : List UInt8) : True := trivial
theorem T_arity : TT 49 = some (Tryd.f49, bodyOf Tryd.f49) := by kernel_rfl
/-- Of an instruction of one byte. -/
theorem arity_ev (a : UInt8) : EE 49 [S [a]] = some (N (arM [a])) := by
  refine EE_plain T_arity (by decide) (Nat.le_of_ble_eq_true rfl) rfl ?_
  rw [show opt 49 = [] from rfl]
  simp only [bodyOf, Tryd.f49, SA]
  have h1 : [83, 77, 73, 78, 82, 67, 80].contains a = isOne a := rfl
  have h2 : [43, 42, 94, 45, 61, 60, 64].contains a = isTwo a := rfl
  simp only [arM]
  cases hx : isOne a <;> cases hy : isTwo a <;> simp only [contains_ev, h1, h2, hx, hy, TMA, IA, PA, RA0, RA1, RA2, RA3, RA4, RA5, RA6, RA7, RA8, RA9, RA10, Nat.reduceAdd, Nat.reduceMul, Nat.reduceEqDiff, Nat.reduceLeDiff, Nat.reduceLT, Int.reduceToNat, Int.reduceLT, Int.reduceLE, Int.reduceEq, Int.reduceNeg, Int.reduceAdd, Int.reduceSub, Int.reduceMul, reduceIte]

/-- The reference's kind of an instruction. -/
def kindM (l : List UInt8) : UInt8 := match l with
  | [a, b] => if (decide (a = 91) || decide (a = 123)) && isLV b then 91 else 0
  | [a] => if isDig a || isVar a then 97 else if isOne a then 83 else if isTwo a then 43 else if decide (a = 93) || decide (a = 125) then 93 else 0
  | _ => 0
theorem T_l7Kind : TT 57 = some (Tryd.f57, bodyOf Tryd.f57) := by kernel_rfl
set_option maxHeartbeats 4000000 in
theorem l7Kind_ev (l : List UInt8) : EE 57 [S l] = some (U (kindM l)) := by
  refine EE_plain T_l7Kind (by decide) (Nat.le_of_ble_eq_true rfl) rfl ?_
  rw [show opt 57 = [] from rfl]
  simp only [bodyOf, Tryd.f57, SA]
  rcases l with _ | ⟨a, _ | ⟨b, _ | ⟨d, l⟩⟩⟩
  · simp only [kindM, IA, PA, RA0, RA1, RA2, RA3, RA4, RA5, RA6, RA7, RA8, RA9, RA10, Nat.reduceAdd, Nat.reduceMul, Nat.reduceEqDiff, Nat.reduceLeDiff, Nat.reduceLT, Int.reduceToNat, Int.reduceLT, Int.reduceLE, Int.reduceEq, Int.reduceNeg, Int.reduceAdd, Int.reduceSub, Int.reduceMul, reduceIte]
    rfl
  · have e97 : decide ((a.toNat : Int) = 97) = decide (a = 97) := eq_nat a 97
    have e98 : decide ((a.toNat : Int) = 98) = decide (a = 98) := eq_nat a 98
    have e93 : decide ((a.toNat : Int) = 93) = decide (a = 93) := eq_nat a 93
    have e125 : decide ((a.toNat : Int) = 125) = decide (a = 125) := eq_nat a 125
    simp only [kindM, isVar_cases]
    simp only [l1In_ev, in_dig, in_lv, wrap_u8, e97, e98, IA, PA, RA0, RA1, RA2, RA3, RA4, RA5, RA6, RA7, RA8, RA9, RA10, Nat.reduceAdd, Nat.reduceMul, Nat.reduceEqDiff, Nat.reduceLeDiff, Nat.reduceLT, Int.reduceToNat, Int.reduceLT, Int.reduceLE, Int.reduceEq, Int.reduceNeg, Int.reduceAdd, Int.reduceSub, Int.reduceMul, reduceIte]
    generalize hd : isDig a = d
    generalize hx : decide (a = 97) = x
    generalize hy : decide (a = 98) = y
    generalize hz : isLV a = z
    have hone : [83, 77, 73, 78, 82, 67, 80].contains a = isOne a := rfl
    have htwo : [43, 42, 94, 45, 61, 60, 64].contains a = isTwo a := rfl
    generalize h1 : isOne a = o1 at hone
    generalize h2 : isTwo a = o2 at htwo
    generalize h3 : decide (a = 93) = o3 at e93
    generalize h4 : decide (a = 125) = o4 at e125
    cases d
    case true =>
      simp only [l1In_ev, in_dig, in_lv, wrap_u8, e97, e98, hd, hx, hy, hz, IA, PA, RA0, RA1, RA2, RA3, RA4, RA5, RA6, RA7, RA8, RA9, RA10, Nat.reduceAdd, Nat.reduceMul, Nat.reduceEqDiff, Nat.reduceLeDiff, Nat.reduceLT, Int.reduceToNat, Int.reduceLT, Int.reduceLE, Int.reduceEq, Int.reduceNeg, Int.reduceAdd, Int.reduceSub, Int.reduceMul, reduceIte]
      rfl
    cases x
    case true =>
      simp only [l1In_ev, in_dig, in_lv, wrap_u8, e97, e98, hd, hx, hy, hz, IA, PA, RA0, RA1, RA2, RA3, RA4, RA5, RA6, RA7, RA8, RA9, RA10, Nat.reduceAdd, Nat.reduceMul, Nat.reduceEqDiff, Nat.reduceLeDiff, Nat.reduceLT, Int.reduceToNat, Int.reduceLT, Int.reduceLE, Int.reduceEq, Int.reduceNeg, Int.reduceAdd, Int.reduceSub, Int.reduceMul, reduceIte]
      rfl
    cases y
    case true =>
      simp only [l1In_ev, in_dig, in_lv, wrap_u8, e97, e98, hd, hx, hy, hz, IA, PA, RA0, RA1, RA2, RA3, RA4, RA5, RA6, RA7, RA8, RA9, RA10, Nat.reduceAdd, Nat.reduceMul, Nat.reduceEqDiff, Nat.reduceLeDiff, Nat.reduceLT, Int.reduceToNat, Int.reduceLT, Int.reduceLE, Int.reduceEq, Int.reduceNeg, Int.reduceAdd, Int.reduceSub, Int.reduceMul, reduceIte]
      rfl
    cases z
    case true =>
      simp only [l1In_ev, in_dig, in_lv, wrap_u8, e97, e98, hd, hx, hy, hz, IA, PA, RA0, RA1, RA2, RA3, RA4, RA5, RA6, RA7, RA8, RA9, RA10, Nat.reduceAdd, Nat.reduceMul, Nat.reduceEqDiff, Nat.reduceLeDiff, Nat.reduceLT, Int.reduceToNat, Int.reduceLT, Int.reduceLE, Int.reduceEq, Int.reduceNeg, Int.reduceAdd, Int.reduceSub, Int.reduceMul, reduceIte]
      rfl
    simp only [l1In_ev, in_dig, in_lv, wrap_u8, e97, e98, hd, hx, hy, hz, IA, PA, RA0, RA1, RA2, RA3, RA4, RA5, RA6, RA7, RA8, RA9, RA10, Nat.reduceAdd, Nat.reduceMul, Nat.reduceEqDiff, Nat.reduceLeDiff, Nat.reduceLT, Int.reduceToNat, Int.reduceLT, Int.reduceLE, Int.reduceEq, Int.reduceNeg, Int.reduceAdd, Int.reduceSub, Int.reduceMul, reduceIte]
    rw [l13Find_ev _ a (by decide)]
    cases o1
    · simp only [findFrom_has, hone, IA, PA, RA0, RA1, RA2, RA3, RA4, RA5, RA6, RA7, RA8, RA9, RA10, Nat.reduceAdd, Nat.reduceMul, Nat.reduceEqDiff, Nat.reduceLeDiff, Nat.reduceLT, Int.reduceToNat, Int.reduceLT, Int.reduceLE, Int.reduceEq, Int.reduceNeg, Int.reduceAdd, Int.reduceSub, Int.reduceMul, reduceIte]
      rw [l13Find_ev _ a (by decide)]
      cases o2
      · cases o3
        · cases o4 <;> simp only [findFrom_has, htwo, e93, e125, h3, h4, IA, PA, RA0, RA1, RA2, RA3, RA4, RA5, RA6, RA7, RA8, RA9, RA10, Nat.reduceAdd, Nat.reduceMul, Nat.reduceEqDiff, Nat.reduceLeDiff, Nat.reduceLT, Int.reduceToNat, Int.reduceLT, Int.reduceLE, Int.reduceEq, Int.reduceNeg, Int.reduceAdd, Int.reduceSub, Int.reduceMul, reduceIte] <;> rfl
        · simp only [findFrom_has, htwo, e93, e125, h3, h4, IA, PA, RA0, RA1, RA2, RA3, RA4, RA5, RA6, RA7, RA8, RA9, RA10, Nat.reduceAdd, Nat.reduceMul, Nat.reduceEqDiff, Nat.reduceLeDiff, Nat.reduceLT, Int.reduceToNat, Int.reduceLT, Int.reduceLE, Int.reduceEq, Int.reduceNeg, Int.reduceAdd, Int.reduceSub, Int.reduceMul, reduceIte]
          rfl
      · simp only [findFrom_has, htwo, IA, PA, RA0, RA1, RA2, RA3, RA4, RA5, RA6, RA7, RA8, RA9, RA10, Nat.reduceAdd, Nat.reduceMul, Nat.reduceEqDiff, Nat.reduceLeDiff, Nat.reduceLT, Int.reduceToNat, Int.reduceLT, Int.reduceLE, Int.reduceEq, Int.reduceNeg, Int.reduceAdd, Int.reduceSub, Int.reduceMul, reduceIte]
        rfl
    · simp only [findFrom_has, hone, IA, PA, RA0, RA1, RA2, RA3, RA4, RA5, RA6, RA7, RA8, RA9, RA10, Nat.reduceAdd, Nat.reduceMul, Nat.reduceEqDiff, Nat.reduceLeDiff, Nat.reduceLT, Int.reduceToNat, Int.reduceLT, Int.reduceLE, Int.reduceEq, Int.reduceNeg, Int.reduceAdd, Int.reduceSub, Int.reduceMul, reduceIte]
      rfl
  · have e1 : decide ((a.toNat : Int) = 91) = decide (a = 91) := eq_nat a 91
    have e2 : decide ((a.toNat : Int) = 123) = decide (a = 123) := eq_nat a 123
    simp only [kindM]
    generalize hx : decide (a = 91) = x
    generalize hy : decide (a = 123) = y
    generalize hz : isLV b = z
    cases x <;> cases y <;> cases z <;> simp only [l1In_ev, in_lv, wrap_u8, e1, e2, hx, hy, hz, IA, PA, RA0, RA1, RA2, RA3, RA4, RA5, RA6, RA7, RA8, RA9, RA10, Nat.reduceAdd, Nat.reduceMul, Nat.reduceEqDiff, Nat.reduceLeDiff, Nat.reduceLT, Int.reduceToNat, Int.reduceLT, Int.reduceLE, Int.reduceEq, Int.reduceNeg, Int.reduceAdd, Int.reduceSub, Int.reduceMul, reduceIte] <;> rfl
  · have h1 : ¬ (((l.length + 1 + 1 + 1 : Nat) : Int) = 2) := by omega
    have h2 : ¬ (((l.length + 1 + 1 + 1 : Nat) : Int) = 1) := by omega
    simp only [kindM, h1, h2, IA, PA, RA0, RA1, RA2, RA3, RA4, RA5, RA6, RA7, RA8, RA9, RA10, Nat.reduceAdd, Nat.reduceMul, Nat.reduceEqDiff, Nat.reduceLeDiff, Nat.reduceLT, Int.reduceToNat, Int.reduceLT, Int.reduceLE, Int.reduceEq, Int.reduceNeg, Int.reduceAdd, Int.reduceSub, Int.reduceMul, reduceIte]
    rfl
end
end Go.Proofs.YtkmnidbodlmaaaaDoor.Ev

/-
The instructions of a term in the reference; the law of FlatSteps.
-/
namespace Go.Proofs.YtkmnidbodlmaaaaDoor.Ev
section
set_option linter.unusedVariables false
set_option linter.unusedSimpArgs false
open Go Go.RowKit
set_option linter.unusedVariables false
set_option linter.unusedSimpArgs false

def leafT : T → Bool
  | .dig _ => true
  | .var _ => true
  | _ => false
/-- The reference's list: a leaf's lies in a slice made at once. -/
def resL (t : T) : AV := if leafT t = true then .s true (listT t).length (strs (listT t)) else .o 9 1 (listT t).length (strs (listT t))
theorem leaf_len {t : T} (h : leafT t = true) : ∃ c, listT t = [[c]] := by cases t <;> simp_all [leafT, listT]
theorem resL_leaf {t : T} (h : leafT t = true) : resL t = .s true (listT t).length (strs (listT t)) := if_pos h
theorem resL_node {t : T} (h : leafT t = false) : resL t = .o 9 1 (listT t).length (strs (listT t)) := if_neg (by simp [h])

theorem T_l7List : TT 68 = some (Tryd.f68, bodyOf Tryd.f68) := by kernel_rfl
theorem opt_l7List : opt 68 = [oBox 42, oReg 11] := rfl
set_option maxHeartbeats 4000000 in
theorem l7List_ev : ∀ t, WF t → (listT t).length ≤ 1000000 → EE 68 [.a (encN t)] = some (resL t) := by
  intro t
  induction t with
  | dig c =>
    intro hw hb
    refine EE_plain T_l7List (by decide) (Nat.le_of_ble_eq_true rfl) (by simp only [closedL, closed, encN_closed, Bool.and_self]) ?_
    rw [opt_l7List]
    simp only [bodyOf, Tryd.f68, SA]
    simp only [encN, TMA, RR, IA, PA, RA0, RA1, RA2, RA3, RA4, RA5, RA6, RA7, RA8, RA9, RA10, Nat.reduceAdd, Nat.reduceMul, Nat.reduceEqDiff, Nat.reduceLeDiff, Nat.reduceLT, Int.reduceToNat, Int.reduceLT, Int.reduceLE, Int.reduceEq, Int.reduceNeg, Int.reduceAdd, Int.reduceSub, Int.reduceMul, reduceIte]
    rfl
  | var c =>
    intro hw hb
    refine EE_plain T_l7List (by decide) (Nat.le_of_ble_eq_true rfl) (by simp only [closedL, closed, encN_closed, Bool.and_self]) ?_
    rw [opt_l7List]
    simp only [bodyOf, Tryd.f68, SA]
    simp only [encN, TMA, RR, IA, PA, RA0, RA1, RA2, RA3, RA4, RA5, RA6, RA7, RA8, RA9, RA10, Nat.reduceAdd, Nat.reduceMul, Nat.reduceEqDiff, Nat.reduceLeDiff, Nat.reduceLT, Int.reduceToNat, Int.reduceLT, Int.reduceLE, Int.reduceEq, Int.reduceNeg, Int.reduceAdd, Int.reduceSub, Int.reduceMul, reduceIte]
    rfl
  | one s x ih =>
    intro hw hb
    refine EE_plain T_l7List (by decide) (Nat.le_of_ble_eq_true rfl) (by simp only [closedL, closed, encN_closed, Bool.and_self]) ?_
    rw [opt_l7List]
    simp only [bodyOf, Tryd.f68, SA]
    simp only [listT, List.length_append, List.length_cons, List.length_nil] at hb
    have hx := ih hw.2 (by omega)
    simp only [encN, TMA, RR, IA, PA, RA0, RA1, RA2, RA3, RA4, RA5, RA6, RA7, RA8, RA9, RA10, Nat.reduceAdd, Nat.reduceMul, Nat.reduceEqDiff, Nat.reduceLeDiff, Nat.reduceLT, Int.reduceToNat, Int.reduceLT, Int.reduceLE, Int.reduceEq, Int.reduceNeg, Int.reduceAdd, Int.reduceSub, Int.reduceMul, reduceIte]
    cases hlf : leafT x with
    | true =>
      rw [resL_leaf hlf] at hx
      simp only [hx, TMA, RR, IA, PA, RA0, RA1, RA2, RA3, RA4, RA5, RA6, RA7, RA8, RA9, RA10, Nat.reduceAdd, Nat.reduceMul, Nat.reduceEqDiff, Nat.reduceLeDiff, Nat.reduceLT, Int.reduceToNat, Int.reduceLT, Int.reduceLE, Int.reduceEq, Int.reduceNeg, Int.reduceAdd, Int.reduceSub, Int.reduceMul, reduceIte]
      rw [app_s (by decide) rfl rfl (by simp only [strs_len, Nat.mul_one]) (by omega) (by omega) (.inl (by decide))]
      simp only [strs_one, strs_append, RR, IA, PA, RA0, RA1, RA2, RA3, RA4, RA5, RA6, RA7, RA8, RA9, RA10, Nat.reduceAdd, Nat.reduceMul, Nat.reduceEqDiff, Nat.reduceLeDiff, Nat.reduceLT, Int.reduceToNat, Int.reduceLT, Int.reduceLE, Int.reduceEq, Int.reduceNeg, Int.reduceAdd, Int.reduceSub, Int.reduceMul, reduceIte]
      rw [give_row (by rfl) (strs_closed _)]
      simp only [resL, leafT, listT, List.length_append, List.length_cons, List.length_nil, Bool.false_eq_true, if_false]
    | false =>
      rw [resL_node hlf] at hx
      simp only [hx, TMA, RR, IA, PA, RA0, RA1, RA2, RA3, RA4, RA5, RA6, RA7, RA8, RA9, RA10, Nat.reduceAdd, Nat.reduceMul, Nat.reduceEqDiff, Nat.reduceLeDiff, Nat.reduceLT, Int.reduceToNat, Int.reduceLT, Int.reduceLE, Int.reduceEq, Int.reduceNeg, Int.reduceAdd, Int.reduceSub, Int.reduceMul, reduceIte]
      rw [app_w (by rfl) (by decide) rfl rfl (by simp only [strs_len, Nat.mul_one]) (by omega) (by omega) (by decide)]
      simp only [strs_one, strs_append, RR, IA, PA, RA0, RA1, RA2, RA3, RA4, RA5, RA6, RA7, RA8, RA9, RA10, Nat.reduceAdd, Nat.reduceMul, Nat.reduceEqDiff, Nat.reduceLeDiff, Nat.reduceLT, Int.reduceToNat, Int.reduceLT, Int.reduceLE, Int.reduceEq, Int.reduceNeg, Int.reduceAdd, Int.reduceSub, Int.reduceMul, reduceIte]
      rw [give_row (by rfl) (strs_closed _)]
      simp only [resL, leafT, listT, List.length_append, List.length_cons, List.length_nil, Bool.false_eq_true, if_false]
  | two s x y ihx ihy =>
    intro hw hb
    refine EE_plain T_l7List (by decide) (Nat.le_of_ble_eq_true rfl) (by simp only [closedL, closed, encN_closed, Bool.and_self]) ?_
    rw [opt_l7List]
    simp only [bodyOf, Tryd.f68, SA]
    simp only [listT, List.length_append, List.length_cons, List.length_nil] at hb
    have hx := ihx hw.2.1 (by omega)
    have hy := ihy hw.2.2 (by omega)
    have fin : ∀ (σ : Sto) (id : Nat), σ id = some (.row 9 1 ((listT x).length + (listT y).length + 1) (strs (listT x ++ listT y ++ [[s]]))) → giveAll σ [.w id 0 ((listT x).length + (listT y).length + 1)] = some (resL (.two s x y)) := by
      intro σ id h
      rw [give_row h (strs_closed _)]
      simp only [resL, leafT, listT, List.length_append, List.length_cons, List.length_nil, Bool.false_eq_true, if_false]
    have hyl : (listT y).length ≠ 0 := by cases y <;> simp [listT]
    simp only [encN, TMA, RR, IA, PA, RA0, RA1, RA2, RA3, RA4, RA5, RA6, RA7, RA8, RA9, RA10, Nat.reduceAdd, Nat.reduceMul, Nat.reduceEqDiff, Nat.reduceLeDiff, Nat.reduceLT, Int.reduceToNat, Int.reduceLT, Int.reduceLE, Int.reduceEq, Int.reduceNeg, Int.reduceAdd, Int.reduceSub, Int.reduceMul, reduceIte]
    cases hlf : leafT x
    case' true =>
      rw [resL_leaf hlf] at hx
      simp only [hx, TMA, RR, IA, PA, RA0, RA1, RA2, RA3, RA4, RA5, RA6, RA7, RA8, RA9, RA10, Nat.reduceAdd, Nat.reduceMul, Nat.reduceEqDiff, Nat.reduceLeDiff, Nat.reduceLT, Int.reduceToNat, Int.reduceLT, Int.reduceLE, Int.reduceEq, Int.reduceNeg, Int.reduceAdd, Int.reduceSub, Int.reduceMul, reduceIte]
    case' false =>
      rw [resL_node hlf] at hx
      simp only [hx, TMA, RR, IA, PA, RA0, RA1, RA2, RA3, RA4, RA5, RA6, RA7, RA8, RA9, RA10, Nat.reduceAdd, Nat.reduceMul, Nat.reduceEqDiff, Nat.reduceLeDiff, Nat.reduceLT, Int.reduceToNat, Int.reduceLT, Int.reduceLE, Int.reduceEq, Int.reduceNeg, Int.reduceAdd, Int.reduceSub, Int.reduceMul, reduceIte]
    all_goals
      cases hlf2 : leafT y
      case' true =>
        rw [resL_leaf hlf2] at hy
      case' false =>
        rw [resL_node hlf2] at hy
      all_goals
        simp only [hy, scW_row, TMA, RR, IA, PA, RA0, RA1, RA2, RA3, RA4, RA5, RA6, RA7, RA8, RA9, RA10, Nat.reduceAdd, Nat.reduceMul, Nat.reduceEqDiff, Nat.reduceLeDiff, Nat.reduceLT, Int.reduceToNat, Int.reduceLT, Int.reduceLE, Int.reduceEq, Int.reduceNeg, Int.reduceAdd, Int.reduceSub, Int.reduceMul, reduceIte]
        first
          | rw [app_s (by decide) (by simp only [strs_len, Nat.mul_one]) (strs_leaf _) (by simp only [strs_len, Nat.mul_one]) (by omega) (by omega) (.inl hyl)]
          | rw [app_w (by rfl) (by decide) (by simp only [strs_len, Nat.mul_one]) (strs_leaf _) (by simp only [strs_len, Nat.mul_one]) (by omega) (by omega) (by decide)]
        simp only [strs_append, TMA, RR, IA, PA, RA0, RA1, RA2, RA3, RA4, RA5, RA6, RA7, RA8, RA9, RA10, Nat.reduceAdd, Nat.reduceMul, Nat.reduceEqDiff, Nat.reduceLeDiff, Nat.reduceLT, Int.reduceToNat, Int.reduceLT, Int.reduceLE, Int.reduceEq, Int.reduceNeg, Int.reduceAdd, Int.reduceSub, Int.reduceMul, reduceIte]
        rw [app_w (by rfl) (by decide) rfl rfl (by simp only [strs_len, List.length_append, Nat.mul_one]) (by omega) (by omega) (by decide)]
        simp only [strs_one, strs_append, RR, IA, PA, RA0, RA1, RA2, RA3, RA4, RA5, RA6, RA7, RA8, RA9, RA10, Nat.reduceAdd, Nat.reduceMul, Nat.reduceEqDiff, Nat.reduceLeDiff, Nat.reduceLT, Int.reduceToNat, Int.reduceLT, Int.reduceLE, Int.reduceEq, Int.reduceNeg, Int.reduceAdd, Int.reduceSub, Int.reduceMul, reduceIte]
        exact fin _ _ (by rfl)
  | loop s v x y ihx ihy =>
    intro hw hb
    refine EE_plain T_l7List (by decide) (Nat.le_of_ble_eq_true rfl) (by simp only [closedL, closed, encN_closed, Bool.and_self]) ?_
    rw [opt_l7List]
    simp only [bodyOf, Tryd.f68, SA]
    simp only [listT, List.length_append, List.length_cons, List.length_nil] at hb
    have hx := ihx hw.2.2.1 (by omega)
    have hy := ihy hw.2.2.2 (by omega)
    have fin : ∀ (σ : Sto) (id : Nat), σ id = some (.row 9 1 ((listT x).length + 1 + (listT y).length + 1) (strs (listT x ++ [[s, v]] ++ listT y ++ [[s + 2]]))) → giveAll σ [.w id 0 ((listT x).length + 1 + (listT y).length + 1)] = some (resL (.loop s v x y)) := by
      intro σ id h
      rw [give_row h (strs_closed _)]
      simp only [resL, leafT, listT, List.length_append, List.length_cons, List.length_nil, Bool.false_eq_true, if_false, Nat.zero_add]
    have hyl : (listT y).length ≠ 0 := by cases y <;> simp [listT]
    have hv0 : ¬ ((v.toNat : Int) = 0) := by
      have := hw.2.1
      simp only [isLV, Bool.and_eq_true, decide_eq_true_iff] at this
      omega
    have hs2 : IntKind.u8.wrap ((s.toNat : Int) + 2) = ((s + 2).toNat : Int) := by rcases hw.1 with h | h <;> rw [h] <;> rfl
    simp only [encN, TMA, RR, IA, PA, RA0, RA1, RA2, RA3, RA4, RA5, RA6, RA7, RA8, RA9, RA10, Nat.reduceAdd, Nat.reduceMul, Nat.reduceEqDiff, Nat.reduceLeDiff, Nat.reduceLT, Int.reduceToNat, Int.reduceLT, Int.reduceLE, Int.reduceEq, Int.reduceNeg, Int.reduceAdd, Int.reduceSub, Int.reduceMul, reduceIte]
    cases hlf : leafT x
    case' true =>
      rw [resL_leaf hlf] at hx
      simp only [hx, hv0, str_add, TMA, RR, IA, PA, RA0, RA1, RA2, RA3, RA4, RA5, RA6, RA7, RA8, RA9, RA10, Nat.reduceAdd, Nat.reduceMul, Nat.reduceEqDiff, Nat.reduceLeDiff, Nat.reduceLT, Int.reduceToNat, Int.reduceLT, Int.reduceLE, Int.reduceEq, Int.reduceNeg, Int.reduceAdd, Int.reduceSub, Int.reduceMul, reduceIte]
    case' false =>
      rw [resL_node hlf] at hx
      simp only [hx, hv0, str_add, TMA, RR, IA, PA, RA0, RA1, RA2, RA3, RA4, RA5, RA6, RA7, RA8, RA9, RA10, Nat.reduceAdd, Nat.reduceMul, Nat.reduceEqDiff, Nat.reduceLeDiff, Nat.reduceLT, Int.reduceToNat, Int.reduceLT, Int.reduceLE, Int.reduceEq, Int.reduceNeg, Int.reduceAdd, Int.reduceSub, Int.reduceMul, reduceIte]
    all_goals
      first
        | rw [app_s (by decide) rfl rfl (by simp only [strs_len, Nat.mul_one]) (by omega) (by omega) (.inl (by decide))]
        | rw [app_w (by rfl) (by decide) rfl rfl (by simp only [strs_len, Nat.mul_one]) (by omega) (by omega) (by decide)]
      cases hlf2 : leafT y
      case' true =>
        rw [resL_leaf hlf2] at hy
      case' false =>
        rw [resL_node hlf2] at hy
      all_goals
        simp only [hy, strs_one, strs_append, scW_row, TMA, RR, IA, PA, RA0, RA1, RA2, RA3, RA4, RA5, RA6, RA7, RA8, RA9, RA10, Nat.reduceAdd, Nat.reduceMul, Nat.reduceEqDiff, Nat.reduceLeDiff, Nat.reduceLT, Int.reduceToNat, Int.reduceLT, Int.reduceLE, Int.reduceEq, Int.reduceNeg, Int.reduceAdd, Int.reduceSub, Int.reduceMul, reduceIte]
        rw [app_w (by rfl) (by decide) (by simp only [strs_len, Nat.mul_one]) (strs_leaf _) (by simp only [strs_len, List.length_append, List.length_cons, List.length_nil, Nat.zero_add, Nat.mul_one]) (by omega) (by omega) (by decide)]
        simp only [hs2, strs_append, TMA, RR, IA, PA, RA0, RA1, RA2, RA3, RA4, RA5, RA6, RA7, RA8, RA9, RA10, Nat.reduceAdd, Nat.reduceMul, Nat.reduceEqDiff, Nat.reduceLeDiff, Nat.reduceLT, Int.reduceToNat, Int.reduceLT, Int.reduceLE, Int.reduceEq, Int.reduceNeg, Int.reduceAdd, Int.reduceSub, Int.reduceMul, reduceIte]
        rw [app_w (by rfl) (by decide) rfl rfl (by simp only [strs_len, List.length_append, List.length_cons, List.length_nil, Nat.zero_add, Nat.mul_one]) (by omega) (by omega) (by decide)]
        simp only [strs_one, strs_append, RR, IA, PA, RA0, RA1, RA2, RA3, RA4, RA5, RA6, RA7, RA8, RA9, RA10, Nat.reduceAdd, Nat.reduceMul, Nat.reduceEqDiff, Nat.reduceLeDiff, Nat.reduceLT, Int.reduceToNat, Int.reduceLT, Int.reduceLE, Int.reduceEq, Int.reduceNeg, Int.reduceAdd, Int.reduceSub, Int.reduceMul, reduceIte]
        exact fin _ _ (by rfl)
end
end Go.Proofs.YtkmnidbodlmaaaaDoor.Ev

/-
Code: texts of lists, the code of a term.
-/
namespace Go.Proofs.YtkmnidbodlmaaaaDoor.Ev
section
set_option linter.unusedVariables false
set_option linter.unusedSimpArgs false
open Go Go.RowKit
set_option linter.unusedVariables false
set_option linter.unusedSimpArgs false

/-- The text of instructions. -/
def joinS (l : List (List UInt8)) : List UInt8 := Lib.join l [32]
/-- As the reference's loop makes it: what is there, the place. -/
def joinFrom (acc : List UInt8) (i : Nat) : List (List UInt8) → List UInt8
  | [] => acc
  | x :: l => joinFrom ((if 0 < i then acc ++ [32] else acc) ++ x) (i + 1) l
theorem joinFrom_len : ∀ (l : List (List UInt8)) (acc : List UInt8) (i : Nat), acc.length ≤ (joinFrom acc i l).length
  | [], acc, i => Nat.le_refl _
  | x :: l, acc, i => by
    have := joinFrom_len l ((if 0 < i then acc ++ [32] else acc) ++ x) (i + 1)
    simp only [joinFrom]
    refine Nat.le_trans ?_ this
    split <;> simp
theorem joinFrom_tail : ∀ (l : List (List UInt8)) (acc : List UInt8) (i : Nat), 0 < i → joinFrom acc i l = acc ++ Lib.joinTail [32] l
  | [], acc, i, _ => by simp [joinFrom, Lib.joinTail]
  | x :: l, acc, i, h => by
    rw [joinFrom, joinFrom_tail l _ _ (Nat.succ_pos i), if_pos h]
    simp [Lib.joinTail]
theorem joinFrom_join (l : List (List UInt8)) : joinFrom [] 0 l = joinS l := by
  cases l with
  | nil => rfl
  | cons x l =>
    rw [joinFrom, joinFrom_tail l _ _ (Nat.succ_pos 0), if_neg (by omega), joinS, Lib.join_cons]
    rfl

theorem T_l7Text : TT 67 = some (Tryd.f67, bodyOf Tryd.f67) := by kernel_rfl
theorem strs_drop_head {L : List (List UInt8)} {i : Nat} {x : List UInt8} {r : List (List UInt8)} (h : L.drop i = x :: r) : i < L.length ∧ L[i]? = some x ∧ L.drop (i + 1) = r := by
  have h1 : i < L.length := by
    rcases Nat.lt_or_ge i L.length with h2 | h2
    · exact h2
    · rw [List.drop_eq_nil_of_le h2] at h; cases h
  refine ⟨h1, ?_, ?_⟩
  · have : (L.drop i)[0]? = some x := by rw [h]; rfl
    simpa using this
  · have : (L.drop i).drop 1 = r := by rw [h]; rfl
    simpa [List.drop_drop] using this
theorem l7Text_loop (ex : Bool) (L : List (List UInt8)) (hL : L.length < 4611686018427387904) : ∀ (r : List (List UInt8)) (i n : Nat) (acc : List UInt8) (e : Nat → AV) (σ : Sto) (nx : Nat) (q : Option (Ex × St)),
    L.drop i = r → r.length < n → (joinFrom acc i r).length ≤ 1000000 → roundsE (evC II EE (withOpt [] pf) MX (bodyL Tryd.f67 0)) n ⟨e, σ, nx⟩ = q → e 6 = .s ex L.length (strs L) → e 7 = N L.length → e 8 = N i → e 3 = S acc →
    ∃ e' nx', q = some (.exit 0, ⟨e', σ, nx'⟩) ∧ e' 3 = S (joinFrom acc i r) := by
  intro r
  induction r with
  | nil =>
    intro i n acc e σ nx q hd hn hb hq h6 h7 h8 h3
    have hlen : L.length ≤ i := by simpa using hd
    obtain ⟨k, rfl⟩ : ∃ k, n = k + 1 := ⟨n - 1, by omega⟩
    rw [rounds_rd] at hq
    have hc : ¬ ((i : Int) < (L.length : Int)) := by omega
    simp only [bodyL, bodyOf, Tryd.f67, SA, loops, List.nil_append, List.append_nil, List.cons_append, List.getD_cons_zero, List.getD_cons_succ] at hq
    simp only [h6, h7, h8, hc, IA, PA, RA0, RA1, RA2, RA3, RA4, RA5, RA6, RA7, RA8, RA9, RA10, Nat.reduceAdd, Nat.reduceMul, Nat.reduceEqDiff, Nat.reduceLeDiff, Nat.reduceLT, Int.reduceToNat, Int.reduceLT, Int.reduceLE, Int.reduceEq, Int.reduceNeg, Int.reduceAdd, Int.reduceSub, Int.reduceMul, reduceIte] at hq
    exact ⟨_, _, hq.symm, h3⟩
  | cons x r ih =>
    intro i n acc e σ nx q hd hn hb hq h6 h7 h8 h3
    obtain ⟨hi, hx, hd'⟩ := strs_drop_head hd
    obtain ⟨k, rfl⟩ : ∃ k, n = k + 1 := ⟨n - 1, by omega⟩
    rw [rounds_rd] at hq
    simp only [joinFrom] at hb ⊢
    have hmono := joinFrom_len r ((if 0 < i then acc ++ [32] else acc) ++ x) (i + 1)
    have hc : ((i : Int) < (L.length : Int)) := by omega
    have hz : (0 : Int) ≤ (i : Int) := by omega
    have hw : IntKind.i64.wrap ((i : Int) + 1) = ((i + 1 : Nat) : Int) := by rw [wrap64 (by omega) (by omega)]; rfl
    have hhd : ((strs L).drop i).head? = some (S x) := by rw [strs_drop, hd]; rfl
    simp only [bodyL, bodyOf, Tryd.f67, SA, loops, List.nil_append, List.append_nil, List.cons_append, List.getD_cons_zero, List.getD_cons_succ] at hq
    by_cases h0 : 0 < i
    · have h0' : (0 : Int) < (i : Int) := by omega
      rw [if_pos h0] at hmono hb ⊢
      simp only [List.length_append, List.length_cons, List.length_nil] at hmono
      simp only [h6, h7, h8, h3, hc, hz, hw, h0', hhd, Int.toNat_natCast, Nat.mul_one, str_addIf, List.length_append, RR, IA, PA, RA0, RA1, RA2, RA3, RA4, RA5, RA6, RA7, RA8, RA9, RA10, Nat.reduceAdd, Nat.reduceMul, Nat.reduceEqDiff, Nat.reduceLeDiff, Nat.reduceLT, Int.reduceToNat, Int.reduceLT, Int.reduceLE, Int.reduceEq, Int.reduceNeg, Int.reduceAdd, Int.reduceSub, Int.reduceMul, reduceIte] at hq
      rw [if_pos (by omega), if_pos (by omega)] at hq
      exact ih (i + 1) k _ _ σ _ q hd' (by simpa using hn) hb hq h6 h7 rfl rfl
    · have h0' : ¬ (0 : Int) < (i : Int) := by omega
      rw [if_neg h0] at hmono hb ⊢
      simp only [List.length_append] at hmono
      simp only [h6, h7, h8, h3, hc, hz, hw, h0', hhd, Int.toNat_natCast, Nat.mul_one, str_addIf, List.length_append, RR, IA, PA, RA0, RA1, RA2, RA3, RA4, RA5, RA6, RA7, RA8, RA9, RA10, Nat.reduceAdd, Nat.reduceMul, Nat.reduceEqDiff, Nat.reduceLeDiff, Nat.reduceLT, Int.reduceToNat, Int.reduceLT, Int.reduceLE, Int.reduceEq, Int.reduceNeg, Int.reduceAdd, Int.reduceSub, Int.reduceMul, reduceIte] at hq
      rw [if_pos (by omega)] at hq
      exact ih (i + 1) k _ _ σ _ q hd' (by simpa using hn) hb hq h6 h7 rfl rfl
theorem l7Text_ev (ex : Bool) (L : List (List UInt8)) (hL : L.length < 4611686018427387904) (hb : (joinS L).length ≤ 1000000) : EE 67 [.s ex L.length (strs L)] = some (S (joinS L)) := by
  refine EE_plain T_l7Text (by decide) (Nat.le_of_ble_eq_true rfl) (by simp only [closedL, closed, strs_closed, Bool.and_self]) ?_
  rw [show opt 67 = [] from rfl]
  simp only [bodyOf, Tryd.f67, SA]
  simp only [IA, PA, RA0, RA1, RA2, RA3, RA4, RA5, RA6, RA7, RA8, RA9, RA10, Nat.reduceAdd, Nat.reduceMul, Nat.reduceEqDiff, Nat.reduceLeDiff, Nat.reduceLT, Int.reduceToNat, Int.reduceLT, Int.reduceLE, Int.reduceEq, Int.reduceNeg, Int.reduceAdd, Int.reduceSub, Int.reduceMul, reduceIte]
  generalize hq : roundsE _ _ _ = q
  rw [← joinFrom_join] at hb ⊢
  obtain ⟨e', nx', rfl, h3⟩ := l7Text_loop ex L hL L 0 MX [] _ _ _ q rfl (lt_MX (by omega)) hb hq rfl rfl rfl rfl
  simp only [h3, IA, PA, RA0, RA1, RA2, RA3, RA4, RA5, RA6, RA7, RA8, RA9, RA10, Nat.reduceAdd, Nat.reduceMul, Nat.reduceEqDiff, Nat.reduceLeDiff, Nat.reduceLT, Int.reduceToNat, Int.reduceLT, Int.reduceLE, Int.reduceEq, Int.reduceNeg, Int.reduceAdd, Int.reduceSub, Int.reduceMul, reduceIte]
end
end Go.Proofs.YtkmnidbodlmaaaaDoor.Ev

/-
Code: a text cut at a byte; both cuts are the same.
-/
namespace Go.Proofs.YtkmnidbodlmaaaaDoor.Ev
section
set_option linter.unusedVariables false
set_option linter.unusedSimpArgs false
open Go Go.RowKit
set_option linter.unusedVariables false
set_option linter.unusedSimpArgs false

/-- The pieces of a text between the bytes c, cur being at hand. -/
def cutF (c : UInt8) : List UInt8 → List UInt8 → List (List UInt8)
  | cur, [] => [cur]
  | cur, x :: l => if x = c then cur :: cutF c [] l else cutF c (cur ++ [x]) l
def cutL (c : UInt8) (l : List UInt8) : List (List UInt8) := cutF c [] l
theorem cutF_len (c : UInt8) : ∀ (l cur : List UInt8), (cutF c cur l).length = l.count c + 1
  | [], cur => rfl
  | x :: l, cur => by
    rw [cutF]
    by_cases h : x = c
    · subst h
      simp [cutF_len]
    · rw [if_neg h, cutF_len c l, List.count_cons_of_ne h]
theorem T_l13Cut : TT 53 = some (Tryd.f53, bodyOf Tryd.f53) := by kernel_rfl
theorem l13Cut_loop (s : List UInt8) (c : UInt8) (hs : s.length < 1000000000) : ∀ (r : List UInt8) (i from_ n : Nat) (done : List (List UInt8)) (e : Nat → AV) (σ : Sto) (nx : Nat) (q : Option (Ex × St)),
    s.drop i = r → i ≤ s.length → from_ ≤ i → r.length + 1 < n → done.length ≤ i → roundsE (evC II EE (withOpt [] pf) MX (bodyL Tryd.f53 0)) n ⟨e, σ, nx⟩ = q →
    e 0 = S s → e 1 = U c → Lst σ nx 9 1 (e 5) done.length (strs done) → e 6 = N from_ → e 7 = N i →
    ∃ e' σ' nx', q = some (.exit 0, ⟨e', σ', nx'⟩) ∧ Lst σ' nx' 9 1 (e' 5) (done ++ cutF c ((s.take i).drop from_) r).length (strs (done ++ cutF c ((s.take i).drop from_) r)) := by
  intro r
  induction r with
  | nil =>
    intro i from_ n done e σ nx q hd hi hf hn hdl hq h0 h1 h5 h6 h7
    have hlen : i = s.length := by
      have : s.length ≤ i := by simpa using hd
      omega
    subst hlen
    obtain ⟨k, rfl⟩ : ∃ k, n = k + 2 := ⟨n - 2, by simp only [List.length_nil] at hn; omega⟩
    rw [rounds_rd] at hq
    have hc : ((s.length : Int) ≤ (s.length : Int)) := Int.le_refl _
    have hf1 : (0 : Int) ≤ (from_ : Int) := by omega
    have hf2 : (from_ : Int) ≤ (s.length : Int) := by omega
    have hw : IntKind.i64.wrap ((s.length : Int) + 1) = ((s.length + 1 : Nat) : Int) := by rw [wrap64 (by omega) (by omega)]; rfl
    have hc' : ¬ (((s.length + 1 : Nat) : Int) ≤ (s.length : Int)) := by omega
    simp only [bodyL, bodyOf, Tryd.f53, SA, loops, List.nil_append, List.append_nil, List.cons_append, List.getD_cons_zero, List.getD_cons_succ] at hq
    simp only [h0, h1, h6, h7, hc, hw, hf1, hf2, Int.toNat_natCast, RR, IA, PA, RA0, RA1, RA2, RA3, RA4, RA5, RA6, RA7, RA8, RA9, RA10, Nat.reduceAdd, Nat.reduceMul, Nat.reduceEqDiff, Nat.reduceLeDiff, Nat.reduceLT, Int.reduceToNat, Int.reduceLT, Int.reduceLE, Int.reduceEq, Int.reduceNeg, Int.reduceAdd, Int.reduceSub, Int.reduceMul, reduceIte] at hq
    rw [lst_app h5 (by decide) (by rfl) (by simp only [List.all_cons, List.all_nil, leafOk_str, Bool.and_self]) (by decide) (by omega) (by omega) (by omega)] at hq
    simp only [h7, hw, IA, PA, RA0, RA1, RA2, RA3, RA4, RA5, RA6, RA7, RA8, RA9, RA10, Nat.reduceAdd, Nat.reduceMul, Nat.reduceEqDiff, Nat.reduceLeDiff, Nat.reduceLT, Int.reduceToNat, Int.reduceLT, Int.reduceLE, Int.reduceEq, Int.reduceNeg, Int.reduceAdd, Int.reduceSub, Int.reduceMul, reduceIte] at hq
    rw [rounds_rd] at hq
    simp only [h0, hc', Int.toNat_natCast, RR, IA, PA, RA0, RA1, RA2, RA3, RA4, RA5, RA6, RA7, RA8, RA9, RA10, Nat.reduceAdd, Nat.reduceMul, Nat.reduceEqDiff, Nat.reduceLeDiff, Nat.reduceLT, Int.reduceToNat, Int.reduceLT, Int.reduceLE, Int.reduceEq, Int.reduceNeg, Int.reduceAdd, Int.reduceSub, Int.reduceMul, reduceIte] at hq
    refine ⟨_, _, _, hq.symm, ?_⟩
    simp only [cutF, List.length_append, List.length_cons, List.length_nil, ← strs_append]
    exact lst_key (by simp [strs_len]) (by omega)
  | cons x r ih =>
    intro i from_ n done e σ nx q hd hi hf hn hdl hq h0 h1 h5 h6 h7
    have hil : i < s.length := by
      rcases Nat.lt_or_ge i s.length with h | h
      · exact h
      · rw [List.drop_eq_nil_of_le h] at hd; cases hd
    have hx : s[i]? = some x := by
      have : (s.drop i)[0]? = some x := by rw [hd]; rfl
      simpa using this
    have hd' : s.drop (i + 1) = r := by
      have : (s.drop i).drop 1 = r := by rw [hd]; rfl
      simpa [List.drop_drop] using this
    have htk : (s.take (i + 1)).drop from_ = (s.take i).drop from_ ++ [x] := by
      rw [List.take_add_one, hx, List.drop_append_of_le_length (by simp; omega)]
      rfl
    have htk' : (s.take (i + 1)).drop (i + 1) = [] := by simp
    obtain ⟨k, rfl⟩ : ∃ k, n = k + 1 := ⟨n - 1, by omega⟩
    rw [rounds_rd] at hq
    have hc : ((i : Int) ≤ (s.length : Int)) := by omega
    have hne : ¬ ((i : Int) = (s.length : Int)) := by omega
    have hlt : ((i : Int) < (s.length : Int)) := by omega
    have hz : (0 : Int) ≤ (i : Int) := by omega
    have hf1 : (0 : Int) ≤ (from_ : Int) := by omega
    have hf2 : (from_ : Int) ≤ (i : Int) := by omega
    have hw : IntKind.i64.wrap ((i : Int) + 1) = ((i + 1 : Nat) : Int) := by rw [wrap64 (by omega) (by omega)]; rfl
    simp only [bodyL, bodyOf, Tryd.f53, SA, loops, List.nil_append, List.append_nil, List.cons_append, List.getD_cons_zero, List.getD_cons_succ] at hq
    simp only [h0, h1, h6, h7, hc, hne, hlt, hz, hx, hw, hf1, hf2, Int.toNat_natCast, RR, IA, PA, RA0, RA1, RA2, RA3, RA4, RA5, RA6, RA7, RA8, RA9, RA10, Nat.reduceAdd, Nat.reduceMul, Nat.reduceEqDiff, Nat.reduceLeDiff, Nat.reduceLT, Int.reduceToNat, Int.reduceLT, Int.reduceLE, Int.reduceEq, Int.reduceNeg, Int.reduceAdd, Int.reduceSub, Int.reduceMul, reduceIte] at hq
    by_cases hxc : x = c
    · subst hxc
      simp only [decide_true, if_true] at hq
      rw [lst_app h5 (by decide) (by rfl) (by simp only [List.all_cons, List.all_nil, leafOk_str, Bool.and_self]) (by decide) (by omega) (by omega) (by omega)] at hq
      simp only [h7, hw, IA, PA, RA0, RA1, RA2, RA3, RA4, RA5, RA6, RA7, RA8, RA9, RA10, Nat.reduceAdd, Nat.reduceMul, Nat.reduceEqDiff, Nat.reduceLeDiff, Nat.reduceLT, Int.reduceToNat, Int.reduceLT, Int.reduceLE, Int.reduceEq, Int.reduceNeg, Int.reduceAdd, Int.reduceSub, Int.reduceMul, reduceIte] at hq
      have h5' : Lst (appSto σ (nx + 16 + 44 + 24) 9 1 (e 5) (done.length + 1) (strs done ++ [S ((s.take i).drop from_)])) (nx + 16 + 44 + 32) 9 1 (.w (nx + 16 + 44 + 24) 0 (done.length + 1)) (done ++ [(s.take i).drop from_]).length (strs (done ++ [(s.take i).drop from_])) := by
        rw [← strs_append]
        exact (show (done ++ [(s.take i).drop from_]).length = done.length + 1 by simp) ▸ lst_key (by simp [strs_len]) (by omega)
      have := ih (i + 1) (i + 1) k (done ++ [(s.take i).drop from_]) _ _ _ q hd' (by omega) (Nat.le_refl _) (by simpa using hn) (by simpa using hdl) hq h0 h1 (lst_mono h5' (by omega)) rfl rfl
      rw [htk'] at this
      simpa [cutF] using this
    · have hn' : ¬ ((x.toNat : Int) = (c.toNat : Int)) := fun h => hxc (UInt8.toNat_inj.mp (by omega))
      simp only [decide_eq_true_eq] at hq
      rw [if_neg hn'] at hq
      have := ih (i + 1) from_ k done _ _ _ q hd' (by omega) (by omega) (by simpa using hn) (by omega) hq h0 h1 (lst_mono h5 (by omega)) h6 rfl
      rw [htk] at this
      simpa [cutF, hxc] using this
theorem l13Cut_ev (s : List UInt8) (c : UInt8) (hs : s.length < 1000000000) : EE 53 [S s, U c] = some (.o 9 1 (cutL c s).length (strs (cutL c s))) := by
  refine EE_plain T_l13Cut (by decide) (Nat.le_of_ble_eq_true rfl) (by rfl) ?_
  rw [show opt 53 = [] from rfl]
  simp only [bodyOf, Tryd.f53, SA]
  simp only [IA, PA, RA0, RA1, RA2, RA3, RA4, RA5, RA6, RA7, RA8, RA9, RA10, Nat.reduceAdd, Nat.reduceMul, Nat.reduceEqDiff, Nat.reduceLeDiff, Nat.reduceLT, Int.reduceToNat, Int.reduceLT, Int.reduceLE, Int.reduceEq, Int.reduceNeg, Int.reduceAdd, Int.reduceSub, Int.reduceMul, reduceIte]
  generalize hq : roundsE _ _ _ = q
  obtain ⟨e', σ', nx', rfl, h5⟩ := l13Cut_loop s c hs s 0 0 MX [] _ _ _ q rfl (Nat.zero_le _) (Nat.le_refl _) (lt_MX (by omega)) (Nat.le_refl _) hq rfl rfl (lst_nil _ _ _ _) rfl rfl
  simp only [List.nil_append, List.drop_nil, List.take_zero] at h5
  simp only [IA, PA, RA0, RA1, RA2, RA3, RA4, RA5, RA6, RA7, RA8, RA9, RA10, Nat.reduceAdd, Nat.reduceMul, Nat.reduceEqDiff, Nat.reduceLeDiff, Nat.reduceLT, Int.reduceToNat, Int.reduceLT, Int.reduceLE, Int.reduceEq, Int.reduceNeg, Int.reduceAdd, Int.reduceSub, Int.reduceMul, reduceIte]
  have hp : (cutL c s).length ≠ 0 := by rw [cutL, cutF_len]; omega
  rw [give_lst h5 (strs_closed _)]
  exact congrArg some (lstR_pos h5 hp)
end
end Go.Proofs.YtkmnidbodlmaaaaDoor.Ev

/-
Code: strings.Split with one byte is the reference's cut.
-/
namespace Go.Proofs.YtkmnidbodlmaaaaDoor.Ev
section
set_option linter.unusedVariables false
set_option linter.unusedSimpArgs false
open Go Go.RowKit
set_option linter.unusedVariables false
set_option linter.unusedSimpArgs false

theorem cutF_cur (c : UInt8) : ∀ (l cur : List UInt8) (a : List UInt8) (t : List (List UInt8)), cutF c [] l = a :: t → cutF c cur l = (cur ++ a) :: t
  | [], cur, a, t, h => by
    simp only [cutF, List.cons.injEq] at h ⊢
    obtain ⟨rfl, rfl⟩ := h
    simp
  | x :: l, cur, a, t, h => by
    simp only [cutF] at h ⊢
    by_cases hx : x = c
    · rw [if_pos hx, List.cons.injEq] at h
      rw [if_pos hx]
      obtain ⟨rfl, rfl⟩ := h
      simp
    · rw [if_neg hx] at h ⊢
      obtain ⟨b, u, hb⟩ : ∃ b u, cutF c [] l = b :: u := by
        have := cutF_len c l []
        cases h2 : cutF c [] l with
        | nil => rw [h2] at this; simp at this
        | cons b u => exact ⟨b, u, rfl⟩
      rw [cutF_cur c l _ b u hb, List.nil_append] at h
      rw [cutF_cur c l _ b u hb]
      obtain ⟨rfl, rfl⟩ := List.cons.inj h
      simp
theorem cutL_cons (c : UInt8) (l : List UInt8) : ∃ a t, cutL c l = a :: t := by
  have := cutF_len c l []
  cases h2 : cutF c [] l with
  | nil => rw [h2] at this; simp at this
  | cons b u => exact ⟨b, u, h2⟩
theorem cutL_none (c : UInt8) : ∀ (l : List UInt8), Lib.indexByte l c = -1 → cutL c l = [l] ∧ l.count c = 0
  | [], _ => ⟨rfl, rfl⟩
  | x :: l, h => by
    unfold Lib.indexByte at h
    by_cases hx : x = c
    · subst hx
      simp at h
    · have hb : ¬ ((x == c) = true) := by simpa using hx
      rw [if_neg hb] at h
      have h' : Lib.indexByte l c = -1 := by
        split at h
        · rename_i h2; simpa using h2
        · have := Lib.indexByte_ge l c; omega
      obtain ⟨h1, h2⟩ := cutL_none c l h'
      refine ⟨?_, by rw [List.count_cons_of_ne hx, h2]⟩
      rw [cutL, cutF, if_neg hx, cutF_cur c l _ l [] h1]
      rfl
theorem cutL_some (c : UInt8) : ∀ (l : List UInt8) (o : Nat), Lib.indexByte l c = (o : Int) → o < l.length ∧ cutL c l = l.take o :: cutL c (l.drop (o + 1)) ∧ l.count c = (l.drop (o + 1)).count c + 1
  | [], o, h => by simp only [Lib.indexByte] at h; omega
  | x :: l, o, h => by
    unfold Lib.indexByte at h
    by_cases hx : x = c
    · subst hx
      simp only [beq_self_eq_true, if_true] at h
      obtain rfl : o = 0 := by omega
      refine ⟨by simp, ?_, by simp⟩
      rw [cutL, cutF, if_pos rfl]
      rfl
    · have hb : ¬ ((x == c) = true) := by simpa using hx
      rw [if_neg hb] at h
      split at h
      · omega
      · obtain ⟨p, rfl⟩ : ∃ p, o = p + 1 := ⟨o - 1, by have := Lib.indexByte_ge l c; rename_i h3; simp at h3; omega⟩
        obtain ⟨h0, h1, h2⟩ := cutL_some c l p (by omega)
        refine ⟨by simpa using h0, ?_, ?_⟩
        · rw [cutL, cutF, if_neg hx, cutF_cur c l _ _ _ h1]
          rfl
        · rw [List.count_cons_of_ne hx, h2]
          rfl
theorem index_ev (l : List UInt8) (c : UInt8) : EE 103 [S l, S [c]] = some (N (Lib.indexByte l c)) := EE_hand rfl
theorem count_ev (l : List UInt8) (c : UInt8) : EE 102 [S l, S [c]] = some (N (l.count c : Nat)) := EE_hand rfl
theorem zrow_one (n : Nat) (z : AV) : zrow (n * 1) 1 [z] = List.replicate n z := by
  unfold zrow
  refine List.ext_getElem (by simp) fun i h1 h2 => ?_
  simp [Nat.mod_one]
theorem T_genSplit : TT 76 = some (Tryd.f76, bodyOf Tryd.f76) := by kernel_rfl
theorem genSplit_loop (c : UInt8) : ∀ (d : Nat) (s : List UInt8) (n k : Nat) (done : List (List UInt8)) (id : Nat) (e : Nat → AV) (σ : Sto) (nx : Nat) (q : Option (Ex × St)),
    s.count c = d → s.length < 1000000000 → n < 1000000000 → d < k → done.length + d + 1 = n → roundsE (evC II EE (withOpt [] pf) MX (bodyL Tryd.f76 0)) k ⟨e, σ, nx⟩ = q →
    e 0 = S s → e 1 = S [c] → e 2 = N 0 → e 3 = N ((n - 1 : Nat) : Int) → e 9 = .w id 0 n → e 10 = N done.length → σ id = some (.row 9 1 n (strs done ++ List.replicate (d + 1) (S []))) →
    ∃ e' σ' nx' done' s', q = some (.exit 0, ⟨e', σ', nx'⟩) ∧ e' 0 = S s' ∧ e' 9 = .w id 0 n ∧ e' 10 = N ((n - 1 : Nat) : Int) ∧ done'.length = n - 1 ∧ σ' id = some (.row 9 1 n (strs done' ++ [S []])) ∧ done ++ cutL c s = done' ++ [s'] := by
  intro d
  induction d with
  | zero =>
    intro s n k done id e σ nx q hd hs hn hk hl hq h0 h1 h2 h3 h9 h10 hσ
    obtain ⟨j, rfl⟩ : ∃ j, k = j + 1 := ⟨k - 1, by omega⟩
    have hlen : done.length = n - 1 := by omega
    rw [rounds_rd] at hq
    simp only [bodyL, bodyOf, Tryd.f76, SA, loops, List.nil_append, List.append_nil, List.cons_append, List.getD_cons_zero, List.getD_cons_succ] at hq
    have hc : ¬ (((n - 1 : Nat) : Int) < ((n - 1 : Nat) : Int)) := Int.lt_irrefl _
    rw [hlen] at h10
    simp only [h3, h10, hc, RR, IA, PA, RA0, RA1, RA2, RA3, RA4, RA5, RA6, RA7, RA8, RA9, RA10, Nat.reduceAdd, Nat.reduceMul, Nat.reduceEqDiff, Nat.reduceLeDiff, Nat.reduceLT, Int.reduceToNat, Int.reduceLT, Int.reduceLE, Int.reduceEq, Int.reduceNeg, Int.reduceAdd, Int.reduceSub, Int.reduceMul, reduceIte] at hq
    refine ⟨_, _, _, done, s, hq.symm, h0, h9, h10, hlen, hσ, ?_⟩
    rw [(cutL_none c s ?_).1]
    rcases Int.lt_or_le (Lib.indexByte s c) 0 with h | h
    · have := Lib.indexByte_ge s c; omega
    · obtain ⟨o, ho⟩ := Int.eq_ofNat_of_zero_le h
      have := (cutL_some c s o ho).2.2
      omega
  | succ d ih =>
    intro s n k done id e σ nx q hd hs hn hk hl hq h0 h1 h2 h3 h9 h10 hσ
    obtain ⟨j, rfl⟩ : ∃ j, k = j + 1 := ⟨k - 1, by omega⟩
    obtain ⟨o, ho⟩ : ∃ o : Nat, Lib.indexByte s c = (o : Int) := by
      rcases Int.lt_or_le (Lib.indexByte s c) 0 with h | h
      · have h' : Lib.indexByte s c = -1 := by have := Lib.indexByte_ge s c; omega
        have := (cutL_none c s h').2
        omega
      · exact Int.eq_ofNat_of_zero_le h
    obtain ⟨hol, hcut, hcnt⟩ := cutL_some c s o ho
    rw [rounds_rd] at hq
    simp only [bodyL, bodyOf, Tryd.f76, SA, loops, List.nil_append, List.append_nil, List.cons_append, List.getD_cons_zero, List.getD_cons_succ] at hq
    have hc : ((done.length : Int) < ((n - 1 : Nat) : Int)) := by omega
    have hc2 : ((done.length : Int) < (n : Int)) := by omega
    have hz : (0 : Int) ≤ (done.length : Int) := by omega
    have hoz : ¬ ((o : Int) < 0) := by omega
    have hoz' : (0 : Int) ≤ (o : Int) := by omega
    have hos : ((o : Int) ≤ (s.length : Int)) := by omega
    have hos1 : (((o + 1 : Nat) : Int) ≤ (s.length : Int)) := by omega
    have hos2 : (0 : Int) ≤ ((o + 1 : Nat) : Int) := by omega
    have hw0 : IntKind.i64.wrap ((o : Int) + 0) = (o : Int) := by rw [wrap64 (by omega) (by omega)]; rfl
    have hw1 : IntKind.i64.wrap ((o : Int) + 1) = ((o + 1 : Nat) : Int) := by rw [wrap64 (by omega) (by omega)]; rfl
    have hw : IntKind.i64.wrap ((done.length : Int) + 1) = ((done.length + 1 : Nat) : Int) := by rw [wrap64 (by omega) (by omega)]; rfl
    simp only [h0, h1, h2, h3, h9, h10, hσ, index_ev, ho, hc, hc2, hz, hoz, hoz', hos, hos1, hos2, hw0, hw1, hw, Int.toNat_natCast, RR, IA, PA, RA0, RA1, RA2, RA3, RA4, RA5, RA6, RA7, RA8, RA9, RA10, Nat.reduceAdd, Nat.reduceMul, Nat.reduceEqDiff, Nat.reduceLeDiff, Nat.reduceLT, Int.reduceToNat, Int.reduceLT, Int.reduceLE, Int.reduceEq, Int.reduceNeg, Int.reduceAdd, Int.reduceSub, Int.reduceMul, reduceIte] at hq
    rw [if_pos (by rw [List.length_append, strs_len, List.length_replicate]; omega)] at hq
    have hrow : (strs done ++ List.replicate (d + 1 + 1) (S [])).take done.length ++ [S (s.take o)] ++ (strs done ++ List.replicate (d + 1 + 1) (S [])).drop (done.length + 1) = strs (done ++ [s.take o]) ++ List.replicate (d + 1) (S []) := by
      rw [List.take_append_of_le_length (by rw [strs_len]; omega), List.take_of_length_le (by rw [strs_len]; omega), List.drop_append, List.drop_eq_nil_of_le (by rw [strs_len]; omega), strs_len, List.nil_append, show done.length + 1 - done.length = 1 from by omega, List.drop_replicate, ← strs_append]
      rfl
    have hdl : (s.drop (o + 1)).length ≤ s.length := by simp
    obtain ⟨e', σ', nx', done', s', rfl, a0, a9, a10, al, aσ, ac⟩ := ih (s.drop (o + 1)) n j (done ++ [s.take o]) id _ _ _ q (by omega) (by omega) hn (by omega) (by simp; omega) hq (by first | rfl | simp) h1 h2 h3 h9 (by simp) (by simp only [upd, if_true, ← hrow])
    refine ⟨e', σ', nx', done', s', rfl, a0, a9, a10, al, aσ, ?_⟩
    rw [hcut, ← ac, List.append_assoc]
    rfl
theorem genSplit_ev (s : List UInt8) (c : UInt8) (hs : s.length < 900000000) : EE 76 [S s, S [c], N 0, N (-1)] = some (.o 9 1 (cutL c s).length (strs (cutL c s))) := by
  refine EE_plain T_genSplit (by decide) (Nat.le_of_ble_eq_true rfl) (by rfl) ?_
  rw [show opt 76 = [] from rfl]
  simp only [bodyOf, Tryd.f76, SA]
  have hcl : s.count c ≤ s.length := List.count_le_length
  have hw : IntKind.i64.wrap (((s.count c : Nat) : Int) + 1) = ((s.count c + 1 : Nat) : Int) := by rw [wrap64 (by omega) (by omega)]; rfl
  have hw2 : IntKind.i64.wrap (((s.count c + 1 : Nat) : Int) - 1) = ((s.count c + 1 - 1 : Nat) : Int) := by rw [wrap64 (by omega) (by omega)]; omega
  have hw3 : IntKind.i64.wrap ((s.length : Int) + 1) = ((s.length + 1 : Nat) : Int) := by rw [wrap64 (by omega) (by omega)]; rfl
  have hm : ¬ (((s.length + 1 : Nat) : Int) < ((s.count c + 1 : Nat) : Int)) := by omega
  have hz : (0 : Int) ≤ ((s.count c + 1 : Nat) : Int) := by omega
  have hl1 : (s.count c + 1) * 16 ≤ 140737488355328 := by omega
  have hl2 : s.count c + 1 ≤ 140737488355328 := by omega
  have hce : ([c] == ([] : List UInt8)) = false := rfl
  simp only [hce, count_ev, hw, hw2, hw3, hm, hz, hl1, hl2, mkK_sl, Int.le_refl, Int.toNat_natCast, RR, IA, PA, RA0, RA1, RA2, RA3, RA4, RA5, RA6, RA7, RA8, RA9, RA10, Nat.reduceAdd, Nat.reduceMul, Nat.reduceEqDiff, Nat.reduceLeDiff, Nat.reduceLT, Int.reduceToNat, Int.reduceLT, Int.reduceLE, Int.reduceEq, Int.reduceNeg, Int.reduceAdd, Int.reduceSub, Int.reduceMul, reduceIte]
  generalize hq : roundsE _ _ _ = q
  obtain ⟨e', σ', nx', done', s', rfl, a0, a9, a10, al, aσ, ac⟩ := genSplit_loop c (s.count c) s (s.count c + 1) MX [] _ _ _ _ q rfl (by omega) (by omega) (lt_MX (by omega)) (by simp) hq rfl rfl rfl rfl rfl rfl (by
    simp only [upd, if_true]
    rw [show strs [] = [] from rfl, List.nil_append, ← zrow_one, Nat.mul_one]
    rfl)
  rw [List.nil_append] at ac
  have hlen : (cutL c s).length = s.count c + 1 := by rw [cutL, cutF_len]
  have hz1 : (0 : Int) ≤ ((s.count c + 1 - 1 : Nat) : Int) := by omega
  have hz2 : ((s.count c + 1 - 1 : Nat) : Int) < ((s.count c + 1 : Nat) : Int) := by omega
  have hw4 : IntKind.i64.wrap (((s.count c + 1 - 1 : Nat) : Int) + 1) = ((s.count c + 1 : Nat) : Int) := by rw [wrap64 (by omega) (by omega)]; omega
  simp only [a0, a9, a10, aσ, hz, hz1, hz2, hw4, Int.le_refl, Int.toNat_natCast, RR, IA, PA, RA0, RA1, RA2, RA3, RA4, RA5, RA6, RA7, RA8, RA9, RA10, Nat.reduceAdd, Nat.reduceMul, Nat.reduceEqDiff, Nat.reduceLeDiff, Nat.reduceLT, Int.reduceToNat, Int.reduceLT, Int.reduceLE, Int.reduceEq, Int.reduceNeg, Int.reduceAdd, Int.reduceSub, Int.reduceMul, reduceIte]
  rw [if_pos (by rw [List.length_append, strs_len]; simp; omega)]
  have hrow : (strs done' ++ [S []]).take (s.count c + 1 - 1) ++ [S s'] ++ (strs done' ++ [S []]).drop (s.count c + 1 - 1 + 1) = strs (done' ++ [s']) := by
    rw [List.take_append_of_le_length (by rw [strs_len]; omega), List.take_of_length_le (by rw [strs_len]; omega), List.drop_eq_nil_of_le (by rw [List.length_append, strs_len]; simp; omega), List.append_nil, ← strs_append]
    rfl
  simp only [cut_w_hi, hz, Int.le_refl, Int.toNat_natCast, hrow, RR, IA, PA, RA0, RA1, RA2, RA3, RA4, RA5, RA6, RA7, RA8, RA9, RA10, Nat.reduceAdd, Nat.reduceMul, Nat.reduceEqDiff, Nat.reduceLeDiff, Nat.reduceLT, Int.reduceToNat, Int.reduceLT, Int.reduceLE, Int.reduceEq, Int.reduceNeg, Int.reduceAdd, Int.reduceSub, Int.reduceMul, reduceIte]
  rw [← ac, ← hlen]
  exact give_row (by simp only [upd, if_true]) (strs_closed _)
theorem T_Split : TT 46 = some (Tryd.f46, bodyOf Tryd.f46) := by kernel_rfl
theorem split_ev (s : List UInt8) (c : UInt8) (hs : s.length < 900000000) : EE 46 [S s, S [c]] = some (.o 9 1 (cutL c s).length (strs (cutL c s))) := by
  refine EE_plain T_Split (by decide) (Nat.le_of_ble_eq_true rfl) (by rfl) ?_
  rw [show opt 46 = [] from rfl]
  simp only [bodyOf, Tryd.f46, SA]
  simp only [genSplit_ev s c hs, RR, IA, PA, RA0, RA1, RA2, RA3, RA4, RA5, RA6, RA7, RA8, RA9, RA10, Nat.reduceAdd, Nat.reduceMul, Nat.reduceEqDiff, Nat.reduceLeDiff, Nat.reduceLT, Int.reduceToNat, Int.reduceLT, Int.reduceLE, Int.reduceEq, Int.reduceNeg, Int.reduceAdd, Int.reduceSub, Int.reduceMul, reduceIte]
  exact give_row (by simp only [upd, if_true]) (strs_closed _)
end
end Go.Proofs.YtkmnidbodlmaaaaDoor.Ev

/-
Code: the builders, in plain words.
-/
namespace Go.Proofs.YtkmnidbodlmaaaaDoor.Ev
section
set_option linter.unusedVariables false
set_option linter.unusedSimpArgs false
open Go Go.RowKit
set_option linter.unusedVariables false
set_option linter.unusedSimpArgs false

/-- Terms, the last one first; loops (sign, variable, how many terms there were), the last one first. -/
structure PS where
  st : List T
  lp : List (UInt8 × UInt8 × Nat)
def baseP : List (UInt8 × UInt8 × Nat) → Nat
  | [] => 0
  | (_, _, b) :: _ => b
/-- The last term, if there is one. -/
def popP (st : List T) (base : Nat) : Option (T × List T) :=
  match st with
  | [] => none
  | x :: r => if (x :: r).length ≤ base then none else some (x, r)
def endP (a : UInt8) (p : PS) : Option PS :=
  match p.lp with
  | [] => none
  | (c, v, b) :: lp =>
    if c + 2 = a ∧ p.st.length = b + 1 then
      (match popP p.st b with
      | some (y, s1) => (match popP s1 (baseP lp) with
        | some (x, s2) => some ⟨.loop c v x y :: s2, lp⟩
        | none => none)
      | none => none)
    else none
/-- An instruction of the reference's. -/
def doP (s : List UInt8) (p : PS) : Option PS :=
  match s with
  | [a] =>
    if isDig a = true then some ⟨.dig a :: p.st, p.lp⟩
    else if isVar a = true then some ⟨.var a :: p.st, p.lp⟩
    else if isOne a = true then (match popP p.st (baseP p.lp) with
      | some (x, s1) => some ⟨.one a x :: s1, p.lp⟩
      | none => none)
    else if isTwo a = true then (match popP p.st (baseP p.lp) with
      | some (y, s1) => (match popP s1 (baseP p.lp) with
        | some (x, s2) => some ⟨.two a x y :: s2, p.lp⟩
        | none => none)
      | none => none)
    else if a = 93 ∨ a = 125 then endP a p
    else none
  | [a, v] => if (a = 91 ∨ a = 123) ∧ isLV v = true then (if baseP p.lp < p.st.length then some ⟨p.st, (a, v, p.st.length) :: p.lp⟩ else none) else none
  | _ => none
/-- All of them, with heights and levels. -/
def runP : List (List UInt8) → PS → Option (PS × List Nat × List Nat)
  | [], p => some (p, [], [])
  | s :: l, p => match doP s p with
    | some p' => (match runP l p' with
      | some (q, hs, ls) => some (q, p'.st.length :: hs, min p.lp.length p'.lp.length :: ls)
      | none => none)
    | none => none
def specB (code : List UInt8) : Option (T × List Nat × List Nat) :=
  if 200 < code.length then none else
  match runP (cutL 32 code) ⟨[], []⟩ with
  | some (⟨[t], []⟩, hs, ls) => if (textT t).length ≤ 80 then some (t, hs, ls) else none
  | _ => none

/-! ### what the reference's builder built -/
def allT (st : List T) : List (List UInt8) := (st.reverse).flatMap listT
theorem allT_cons (x : T) (st : List T) : allT (x :: st) = allT st ++ listT x := by simp [allT]
/-- The code of a state. -/
def codeP : List T → List (UInt8 × UInt8 × Nat) → List (List UInt8)
  | st, [] => allT st
  | st, (c, v, b) :: lp => codeP (st.drop (st.length - b)) lp ++ [[c, v]] ++ allT (st.take (st.length - b))
theorem codeP_push (x : T) (st : List T) (lp : List (UInt8 × UInt8 × Nat)) (h : baseP lp ≤ st.length) : codeP (x :: st) lp = codeP st lp ++ listT x := by
  cases lp with
  | nil => simp [codeP, allT_cons]
  | cons q lp =>
    obtain ⟨c, v, b⟩ := q
    simp only [baseP] at h
    have e : (x :: st).length - b = (st.length - b) + 1 := by simp only [List.length_cons]; omega
    simp only [codeP, e, List.drop_succ_cons, List.take_succ_cons, allT_cons, List.append_assoc]
/-- Signs of loops as they are; each begins behind the one before. -/
def InvL : List (UInt8 × UInt8 × Nat) → Prop
  | [] => True
  | (c, v, b) :: lp => ((c = 91 ∨ c = 123) ∧ isLV v = true) ∧ baseP lp < b ∧ InvL lp
structure InvP (p : PS) : Prop where
  hb : baseP p.lp ≤ p.st.length
  hl : InvL p.lp
  hw : ∀ t ∈ p.st, WF t
theorem popP_some {st : List T} {b : Nat} {x : T} {r : List T} (h : popP st b = some (x, r)) : st = x :: r ∧ b ≤ r.length := by
  cases st with
  | nil => cases h
  | cons y s =>
    simp only [popP] at h
    split at h
    · cases h
    · rename_i hb
      simp only [Option.some.injEq, Prod.mk.injEq] at h
      obtain ⟨rfl, rfl⟩ := h
      simp only [List.length_cons] at hb
      exact ⟨rfl, by omega⟩
theorem popP_mk {x : T} {r : List T} {b : Nat} (h : b ≤ r.length) : popP (x :: r) b = some (x, r) := by
  simp only [popP, List.length_cons]
  rw [if_neg (by omega)]
theorem doP_code {s : List UInt8} {p p' : PS} (h : doP s p = some p') (hp : InvP p) : InvP p' ∧ codeP p'.st p'.lp = codeP p.st p.lp ++ [s] := by
  obtain ⟨st, lp⟩ := p
  obtain ⟨hb, hl, hw⟩ := hp
  simp only at hb hl hw
  unfold doP at h
  split at h
  · rename_i a
    split at h
    · rename_i hd
      obtain rfl := Option.some.inj h
      refine ⟨⟨by simp only [List.length_cons]; omega, hl, ?_⟩, codeP_push _ _ _ hb⟩
      intro t ht
      rcases List.mem_cons.1 ht with rfl | ht
      · exact hd
      · exact hw t ht
    split at h
    · rename_i hd
      obtain rfl := Option.some.inj h
      refine ⟨⟨by simp only [List.length_cons]; omega, hl, ?_⟩, codeP_push _ _ _ hb⟩
      intro t ht
      rcases List.mem_cons.1 ht with rfl | ht
      · exact hd
      · exact hw t ht
    split at h
    · rename_i hd
      split at h
      · rename_i x s1 h1
        obtain rfl := Option.some.inj h
        obtain ⟨h2, hb1⟩ := popP_some h1
        simp only at h2 hb1
        subst h2
        refine ⟨⟨by simp only [List.length_cons]; omega, hl, ?_⟩, ?_⟩
        · intro t ht
          rcases List.mem_cons.1 ht with rfl | ht
          · exact ⟨hd, hw x (by simp)⟩
          · exact hw t (by simp [ht])
        · simp only
          rw [codeP_push _ _ _ hb1, codeP_push _ _ _ hb1]
          simp [listT]
      · cases h
    split at h
    · rename_i hd
      split at h
      · rename_i y s1 h1
        split at h
        · rename_i x s2 h3
          obtain rfl := Option.some.inj h
          obtain ⟨h2, hb1⟩ := popP_some h1
          obtain ⟨h4, hb2⟩ := popP_some h3
          simp only at h2 hb1 h4 hb2
          subst h4
          subst h2
          refine ⟨⟨by simp only [List.length_cons]; omega, hl, ?_⟩, ?_⟩
          · intro t ht
            rcases List.mem_cons.1 ht with rfl | ht
            · exact ⟨hd, hw x (by simp), hw y (by simp)⟩
            · exact hw t (by simp [ht])
          · simp only
            rw [codeP_push _ _ _ hb1, codeP_push _ _ _ hb2, codeP_push _ _ _ hb2]
            simp [listT]
        · cases h
      · cases h
    split at h
    · rename_i he
      cases lp with
      | nil => cases h
      | cons q lp =>
        obtain ⟨c, v, b⟩ := q
        simp only [endP] at h
        simp only [InvL] at hl
        split at h
        · rename_i hc
          split at h
          · rename_i y s1 h1
            split at h
            · rename_i x s2 h3
              obtain rfl := Option.some.inj h
              obtain ⟨h2, hb1⟩ := popP_some h1
              obtain ⟨h4, hb2⟩ := popP_some h3
              subst h4
              subst h2
              have hlen : s2.length + 1 = b := by have := hc.2; simp only [List.length_cons] at this; omega
              refine ⟨⟨by simp only [List.length_cons]; omega, hl.2.2, ?_⟩, ?_⟩
              · intro t ht
                rcases List.mem_cons.1 ht with rfl | ht
                · exact ⟨hl.1.1, hl.1.2, hw x (by simp), hw y (by simp)⟩
                · exact hw t (by simp [ht])
              · simp only
                rw [codeP_push _ _ _ hb2, codeP]
                have e : (y :: x :: s2).length - b = 1 := by simp only [List.length_cons]; omega
                rw [e]
                simp only [List.drop_succ_cons, List.drop_zero, List.take_succ_cons, List.take_zero]
                rw [codeP_push _ _ _ hb2, ← hc.1]
                simp [listT, allT]
            · cases h
          · cases h
        · cases h
    · cases h
  · rename_i a v
    split at h
    · rename_i hc
      split at h
      · rename_i hlt
        obtain rfl := Option.some.inj h
        refine ⟨⟨Nat.le_refl _, ⟨hc, hlt, hl⟩, hw⟩, ?_⟩
        simp [codeP, allT]
      · cases h
    · cases h
  · cases h
theorem runP_code : ∀ {l : List (List UInt8)} {p q : PS} {hs ls : List Nat}, runP l p = some (q, hs, ls) → InvP p → InvP q ∧ codeP q.st q.lp = codeP p.st p.lp ++ l
  | [], p, q, hs, ls, h, hp => by
    simp only [runP, Option.some.injEq, Prod.mk.injEq] at h
    obtain ⟨rfl, _, _⟩ := h
    exact ⟨hp, by simp⟩
  | s :: l, p, q, hs, ls, h, hp => by
    simp only [runP] at h
    split at h
    · rename_i p' h1
      split at h
      · rename_i q' hs' ls' h2
        simp only [Option.some.injEq, Prod.mk.injEq] at h
        obtain ⟨rfl, _, _⟩ := h
        obtain ⟨k1, k2⟩ := doP_code h1 hp
        obtain ⟨k3, k4⟩ := runP_code h2 k1
        exact ⟨k3, by rw [k4, k2]; simp⟩
      · cases h
    · cases h
theorem runP_back {l : List (List UInt8)} {t : T} {hs ls : List Nat} (h : runP l ⟨[], []⟩ = some (⟨[t], []⟩, hs, ls)) : WF t ∧ listT t = l := by
  obtain ⟨h1, h2⟩ := runP_code h ⟨Nat.le_refl _, trivial, fun t h => absurd h List.not_mem_nil⟩
  refine ⟨h1.hw t (by simp), ?_⟩
  simpa [codeP, allT] using h2

/-! ### the code of a term gives it again -/
theorem runP_app {l r : List (List UInt8)} {p p1 q : PS} {hs ls hs' ls' : List Nat} (h : runP l p = some (p1, hs, ls)) (h2 : runP r p1 = some (q, hs', ls')) : runP (l ++ r) p = some (q, hs ++ hs', ls ++ ls') := by
  induction l generalizing p hs ls with
  | nil =>
    simp only [runP, Option.some.injEq, Prod.mk.injEq] at h
    obtain ⟨rfl, rfl, rfl⟩ := h
    simpa using h2
  | cons s l ih =>
    simp only [runP] at h
    split at h
    · rename_i p' h1
      split at h
      · rename_i q' hs1 ls1 h3
        simp only [Option.some.injEq, Prod.mk.injEq] at h
        obtain ⟨rfl, rfl, rfl⟩ := h
        rw [List.cons_append, runP, h1]
        simp only
        rw [ih h3]
        rfl
      · cases h
    · cases h
theorem runP_one {s : List UInt8} {p p' : PS} (h : doP s p = some p') : ∃ hs ls, runP [s] p = some (p', hs, ls) := by
  refine ⟨[p'.st.length], [min p.lp.length p'.lp.length], ?_⟩
  simp [runP, h]
theorem two_not {c : UInt8} (h : isTwo c = true) : isVar c = false ∧ isDig c = false ∧ isOne c = false := by
  have h2 : c = 43 ∨ c = 42 ∨ c = 94 ∨ c = 45 ∨ c = 61 ∨ c = 60 ∨ c = 64 := by simpa [isTwo] using h
  rcases h2 with rfl | rfl | rfl | rfl | rfl | rfl | rfl <;> exact ⟨rfl, rfl, rfl⟩
theorem var_not {c : UInt8} (h : isVar c = true) : isDig c = false := by
  cases hd : isDig c
  · rfl
  · rw [dig_not_var hd] at h; cases h
theorem runP_list : ∀ (t : T), WF t → ∀ (p : PS), baseP p.lp ≤ p.st.length → ∃ hs ls, runP (listT t) p = some (⟨t :: p.st, p.lp⟩, hs, ls) := by
  intro t
  induction t with
  | dig c =>
    intro hw p hb
    have hw : isDig c = true := hw
    exact runP_one (by simp [doP, hw])
  | var c =>
    intro hw p hb
    have hw : isVar c = true := hw
    exact runP_one (by simp [doP, hw, var_not hw])
  | one s x ih =>
    intro hw p hb
    obtain ⟨h1, l1, e1⟩ := ih hw.2 p hb
    have hd := one_not hw.1
    obtain ⟨h2, l2, e2⟩ := runP_one (s := [s]) (p := ⟨x :: p.st, p.lp⟩) (p' := ⟨.one s x :: p.st, p.lp⟩) (by simp [doP, hd.1, hd.2, hw.1, popP_mk hb])
    exact ⟨_, _, runP_app e1 e2⟩
  | two s x y ihx ihy =>
    intro hw p hb
    obtain ⟨h1, l1, e1⟩ := ihx hw.2.1 p hb
    obtain ⟨h2, l2, e2⟩ := ihy hw.2.2 ⟨x :: p.st, p.lp⟩ (by simp only [List.length_cons]; omega)
    have hd := two_not hw.1
    have hb1 : baseP p.lp ≤ (x :: p.st).length := by simp only [List.length_cons]; omega
    obtain ⟨h3, l3, e3⟩ := runP_one (s := [s]) (p := ⟨y :: x :: p.st, p.lp⟩) (p' := ⟨.two s x y :: p.st, p.lp⟩) (by simp [doP, hd.1, hd.2.1, hd.2.2, hw.1, popP_mk hb, popP_mk hb1])
    exact ⟨_, _, runP_app (runP_app e1 e2) e3⟩
  | loop s v x y ihx ihy =>
    intro hw p hb
    obtain ⟨h1, l1, e1⟩ := ihx hw.2.2.1 p hb
    have hlt : baseP p.lp < (x :: p.st).length := by simp only [List.length_cons]; omega
    obtain ⟨h2, l2, e2⟩ := runP_one (s := [s, v]) (p := ⟨x :: p.st, p.lp⟩) (p' := ⟨x :: p.st, (s, v, (x :: p.st).length) :: p.lp⟩) (by
      simp only [doP]
      rw [if_pos ⟨hw.1, hw.2.1⟩, if_pos hlt])
    obtain ⟨h3, l3, e3⟩ := ihy hw.2.2.2 ⟨x :: p.st, (s, v, (x :: p.st).length) :: p.lp⟩ (Nat.le_refl _)
    obtain ⟨h4, l4, e4⟩ := runP_one (s := [s + 2]) (p := ⟨y :: x :: p.st, (s, v, (x :: p.st).length) :: p.lp⟩) (p' := ⟨.loop s v x y :: p.st, p.lp⟩) (by
      have e5 : endP (s + 2) ⟨y :: x :: p.st, (s, v, (x :: p.st).length) :: p.lp⟩ = some ⟨.loop s v x y :: p.st, p.lp⟩ := by
        simp only [endP]
        rw [if_pos ⟨trivial, rfl⟩, popP_mk (Nat.le_refl _)]
        simp only [popP_mk hb]
      rcases hw.1 with rfl | rfl
      · simpa [doP, isDig, isVar, isOne, isTwo] using e5
      · simpa [doP, isDig, isVar, isOne, isTwo] using e5)
    exact ⟨_, _, runP_app (runP_app (runP_app e1 e2) e3) e4⟩
/-! ### lists and texts -/
theorem cutF_join (c : UInt8) : ∀ (l cur : List UInt8), Lib.join (cutF c cur l) [c] = cur ++ l
  | [], cur => by simp [cutF, Lib.join_cons, Lib.joinTail]
  | x :: l, cur => by
    rw [cutF]
    by_cases h : x = c
    · subst h
      rw [if_pos rfl, Lib.join_cons]
      have := cutF_join x l []
      obtain ⟨a, t, e⟩ := cutL_cons x l
      simp only [cutL] at e
      rw [e] at this ⊢
      simp only [Lib.join_cons] at this
      have e2 : Lib.joinTail [x] (a :: t) = x :: (a ++ Lib.joinTail [x] t) := by simp [Lib.joinTail]
      rw [e2, this]
      simp
    · rw [if_neg h, cutF_join c l]
      simp
theorem join_cut (code : List UInt8) : joinS (cutL 32 code) = code := by
  have := cutF_join 32 code []
  simpa [joinS, cutL] using this
theorem cutF_none (c : UInt8) : ∀ (l cur : List UInt8), c ∉ l → cutF c cur l = [cur ++ l]
  | [], cur, _ => by simp [cutF]
  | x :: l, cur, h => by
    simp only [List.mem_cons, not_or] at h
    rw [cutF, if_neg (fun e => h.1 e.symm), cutF_none c l _ h.2]
    simp
theorem cutF_piece (c : UInt8) : ∀ (a cur r : List UInt8), c ∉ a → cutF c cur (a ++ c :: r) = (cur ++ a) :: cutF c [] r
  | [], cur, r, _ => by simp [cutF]
  | x :: a, cur, r, h => by
    simp only [List.mem_cons, not_or] at h
    rw [List.cons_append, cutF, if_neg (fun e => h.1 e.symm), cutF_piece c a _ r h.2]
    simp
theorem cut_tail (c : UInt8) : ∀ (L : List (List UInt8)) (x : List UInt8), c ∉ x → (∀ y ∈ L, c ∉ y) → cutF c [] (x ++ Lib.joinTail [c] L) = x :: L
  | [], x, hx, _ => by simp [Lib.joinTail, cutF_none c x [] hx]
  | y :: L, x, hx, h => by
    have : x ++ Lib.joinTail [c] (y :: L) = x ++ c :: (y ++ Lib.joinTail [c] L) := by simp [Lib.joinTail]
    rw [this, cutF_piece c x [] _ hx, cut_tail c L y (h y (by simp)) fun z hz => h z (by simp [hz])]
    simp
theorem cut_join (L : List (List UInt8)) (h0 : L ≠ []) (h : ∀ y ∈ L, (32 : UInt8) ∉ y) : cutL 32 (joinS L) = L := by
  cases L with
  | nil => exact absurd rfl h0
  | cons x L =>
    rw [joinS, Lib.join_cons, cutL]
    exact cut_tail 32 L x (h x (by simp)) fun y hy => h y (by simp [hy])
theorem list_ne (t : T) : listT t ≠ [] := by cases t <;> simp [listT]
theorem list_clean : ∀ (t : T), WF t → ∀ y ∈ listT t, (32 : UInt8) ∉ y := by
  intro t
  induction t with
  | dig c =>
    intro hw y hy
    simp only [listT, List.mem_singleton] at hy
    subst hy
    have hw : isDig c = true := hw
    simp only [List.mem_singleton]
    rintro rfl
    exact absurd hw (by decide)
  | var c =>
    intro hw y hy
    simp only [listT, List.mem_singleton] at hy
    subst hy
    have hw : isVar c = true := hw
    simp only [List.mem_singleton]
    rintro rfl
    exact absurd hw (by decide)
  | one s x ih =>
    intro hw y hy
    simp only [listT, List.mem_append, List.mem_singleton] at hy
    rcases hy with hy | rfl
    · exact ih hw.2 y hy
    · simp only [List.mem_singleton]
      rintro rfl
      exact absurd hw.1 (by decide)
  | two s x y ihx ihy =>
    intro hw z hz
    simp only [listT, List.mem_append, List.mem_singleton] at hz
    rcases hz with (hz | hz) | rfl
    · exact ihx hw.2.1 z hz
    · exact ihy hw.2.2 z hz
    · simp only [List.mem_singleton]
      rintro rfl
      exact absurd hw.1 (by decide)
  | loop s v x y ihx ihy =>
    intro hw z hz
    simp only [listT, List.mem_append, List.mem_singleton] at hz
    rcases hz with ((hz | rfl) | hz) | rfl
    · exact ihx hw.2.2.1 z hz
    · simp only [List.mem_cons, List.not_mem_nil, or_false, not_or]
      refine ⟨?_, ?_⟩
      · rintro rfl
        exact absurd hw.1 (by decide)
      · rintro rfl
        exact absurd hw.2.1 (by decide)
    · exact ihy hw.2.2.2 z hz
    · simp only [List.mem_singleton]
      intro h
      rcases hw.1 with rfl | rfl <;> exact absurd h (by decide)
theorem cut_list {t : T} (hw : WF t) : cutL 32 (joinS (listT t)) = listT t := cut_join _ (list_ne t) (list_clean t hw)
end
end Go.Proofs.YtkmnidbodlmaaaaDoor.Ev

/-
Code: the reference's builder, told by its terms and loops.
-/
namespace Go.Proofs.YtkmnidbodlmaaaaDoor.Ev
section
set_option linter.unusedVariables false
set_option linter.unusedSimpArgs false
open Go Go.RowKit
set_option linter.unusedVariables false
set_option linter.unusedSimpArgs false
structure BR (p : PS) (a b c : RS) : Prop where
  ok : BOk a b c
  an : a.n = p.st.length
  ac : a.cs = p.st.reverse.flatMap encN
  bn : b.n = p.lp.length
  bc : b.cs = p.lp.reverse.map fun q => S [q.1, q.2.1]
  cn : c.n = p.lp.length
  cc : c.cs = p.lp.reverse.map fun q => N (q.2.2 : Int)
theorem BR.base {p : PS} {a b c : RS} (h : BR p a b c) : IsBase c (baseP p.lp) := by
  obtain ⟨st, lp⟩ := p
  have h1 := h.cn
  have h2 := h.cc
  cases lp with
  | nil => exact .inl ⟨h1, rfl⟩
  | cons q l =>
    obtain ⟨x, y, z⟩ := q
    simp only [List.length_cons] at h1
    refine .inr ⟨by omega, (l.reverse.map fun q => N (q.2.2 : Int)), ?_, ?_⟩
    · rw [h2]; simp [baseP]
    · simp; omega
theorem BR.bl {p : PS} {a b c : RS} (h : BR p a b c) (hp : baseP p.lp ≤ p.st.length) : baseP p.lp < 1000000000 := by
  have := h.ok.an
  have := h.an
  omega
theorem pop_br_none {p : PS} {a b c : RS} (h : BR p a b c) (hb : baseP p.lp < 1000000000) (hp : popP p.st (baseP p.lp) = none) :
    EE 99 [lent 75 [rsV a, rsV b, rsV c]] = some (.t [.t [.a zeroN, B false], .t [lent 75 [rsV a, rsV b, rsV c]]]) := by
  refine pop_none a b c h.ok (baseP p.lp) h.base ?_ hb
  rw [h.an]
  cases hs : p.st with
  | nil => simp
  | cons x r =>
    rw [hs] at hp
    simp only [popP] at hp
    split at hp
    · rename_i hle; exact hle
    · cases hp
theorem flat_len (st : List T) : (st.reverse.flatMap encN).length = st.length * 3 := by
  induction st with
  | nil => rfl
  | cons x r ih => simp only [List.reverse_cons, List.flatMap_append, List.flatMap_cons, List.flatMap_nil, List.append_nil, List.length_append, ih, encN_len, List.length_cons]; omega
theorem flat_closed (st : List T) : closedL (st.reverse.flatMap encN) = true := by
  induction st with
  | nil => rfl
  | cons x r ih => simp only [List.reverse_cons, List.flatMap_append, List.flatMap_cons, List.flatMap_nil, List.append_nil, closedL_append, ih, encN_closed, Bool.and_self]
def popR (a : RS) (pa : List AV) : RS := { a with n := a.n - 1, cs := pa }
theorem BR.popped {p : PS} {a b c : RS} (h : BR p a b c) {x : T} {r : List T} (hs : p.st = x :: r) : BR ⟨r, p.lp⟩ (popR a (r.reverse.flatMap encN)) b c := by
  have h1 := h.an
  rw [hs, List.length_cons] at h1
  have ho := h.ok
  have hab : a.b = true := by
    cases hb : a.b
    · have := (ho.ha.2.2 hb).1; omega
    · rfl
  refine ⟨⟨⟨?_, ?_, ?_⟩, ho.hb, ho.hc, ho.aE, ho.aS, ho.bE, ho.bS, ho.cE, ho.cS, ?_, ho.bn, ho.cn⟩, ?_, rfl, h.bn, h.bc, h.cn, h.cc⟩
  · simp only [popR, flat_len, ho.aS]; omega
  · exact flat_closed r
  · simp only [popR, hab]; intro hh; cases hh
  · have := ho.an; simp only [popR]; omega
  · simp only [popR]; omega
theorem pop_br {p : PS} {a b c : RS} (h : BR p a b c) {x : T} {r : List T} (hp : popP p.st (baseP p.lp) = some (x, r)) :
    EE 99 [lent 75 [rsV a, rsV b, rsV c]] = some (.t [.t [.a (encN x), B true], .t [lent 75 [rsV (popR a (r.reverse.flatMap encN)), rsV b, rsV c]]]) := by
  obtain ⟨hs, hle⟩ := popP_some hp
  have h1 := h.an
  rw [hs, List.length_cons] at h1
  refine pop_some a b c h.ok (baseP p.lp) h.base (by omega) (r.reverse.flatMap encN) (encN x) ?_ (encN_len x) (encN_leaf x) ?_
  · rw [h.ac, hs]; simp
  · rw [flat_len, h1]; omega
theorem BR.pushed {p : PS} {a b c : RS} (h : BR p a b c) (x : T) (hb : p.st.length + 1 < 1000000000) : BR ⟨x :: p.st, p.lp⟩ (pushR a (encN x)) b c := by
  have h1 := h.an
  have ho := h.ok
  have e : a.cs ++ encN x = (x :: p.st).reverse.flatMap encN := by rw [h.ac]; simp
  refine ⟨⟨⟨?_, ?_, ?_⟩, ho.hb, ho.hc, rfl, rfl, ho.bE, ho.bS, ho.cE, ho.cS, ?_, ho.bn, ho.cn⟩, ?_, e, h.bn, h.bc, h.cn, h.cc⟩
  · simp only [pushR, e, flat_len, List.length_cons]; omega
  · simp only [pushR, e]; exact flat_closed _
  · intro hh; cases hh
  · simp only [pushR]; omega
  · simp only [pushR, List.length_cons]; omega
theorem push_br {p : PS} {a b c : RS} (h : BR p a b c) (x : T) :
    EE 98 [lent 75 [rsV a, rsV b, rsV c], .a (encN x)] = some (.t [.t [], .t [lent 75 [rsV (pushR a (encN x)), rsV b, rsV c], .a (encN x)]]) :=
  push_ok a b c h.ok (encN x) (encN_len x) (encN_leaf x) (encN_closed x)
theorem pushR_ok {a : RS} {cell : List AV} (h : rsOk a) (hs : a.sz = 3) (hcl : cell.length = 3) (hcc : closedL cell = true) : rsOk (pushR a cell) := by
  refine ⟨?_, ?_, fun hh => by cases hh⟩
  · have := h.1
    rw [hs] at this
    simp only [pushR, List.length_append, this, hcl]; omega
  · simp only [pushR, closedL_append, h.2.1, hcc, Bool.and_self]
theorem in3 {a b c : RS} (ha : rsOk a) (hb : rsOk b) (hc : rsOk c) : ∀ o ∈ [a, b, c], rsOk o := by
  intro o ho
  simp only [List.mem_cons, List.not_mem_nil, or_false] at ho
  rcases ho with rfl | rfl | rfl
  · exact ha
  · exact hb
  · exact hc
/-- What an instruction of one byte is. -/
theorem kind_a {a : UInt8} (h : isDig a = true ∨ isVar a = true) : kindM [a] = 97 := by
  rcases h with h | h <;> simp [kindM, h]
theorem kind_S {a : UInt8} (h : isOne a = true) : kindM [a] = 83 := by
  have := one_not h
  simp [kindM, h, this]
theorem kind_2 {a : UInt8} (h : isTwo a = true) : kindM [a] = 43 := by
  have := two_not h
  simp [kindM, h, this]
theorem kind_end {a : UInt8} (h : a = 93 ∨ a = 125) : kindM [a] = 93 := by
  rcases h with rfl | rfl <;> rfl
end
end Go.Proofs.YtkmnidbodlmaaaaDoor.Ev

/-
Code: the implementation's builder in plain words; both build the same.
-/
namespace Go.Proofs.YtkmnidbodlmaaaaDoor.Ev
section
set_option linter.unusedVariables false
set_option linter.unusedSimpArgs false
open Go Go.RowKit
set_option linter.unusedVariables false
set_option linter.unusedSimpArgs false

/-- A term of one byte. -/
def leafI (a : UInt8) : T := if isDig a = true then .dig a else .var a
/-- An instruction of the implementation's: terms and loops, the last ones first. -/
def doI (s : List UInt8) (st : List T) (op : List (UInt8 × UInt8)) : Option (List T × List (UInt8 × UInt8)) :=
  match s with
  | [a] =>
    if a = 93 ∨ a = 125 then (match op with
      | [] => none
      | (c, v) :: op' => (match st with
        | y :: x :: st' => some (.loop c v x y :: st', op')
        | _ => none))
    else if isOne a = true then (match st with
      | x :: st' => some (.one a x :: st', op)
      | _ => none)
    else if isTwo a = true then (match st with
      | y :: x :: st' => some (.two a x y :: st', op)
      | _ => none)
    else some (leafI a :: st, op)
  | [a, v] => if a = 91 ∨ a = 123 then some (st, (a, v) :: op) else none
  | _ => none
def runI : List (List UInt8) → List T → List (UInt8 × UInt8) → Option (List T × List (UInt8 × UInt8))
  | [], st, op => some (st, op)
  | s :: l, st, op => match doI s st op with
    | some (st', op') => runI l st' op'
    | none => none
def codeT (t : List UInt8) : Option (List UInt8) := (rdT t).map fun u => joinS (listT u)
def implB (code : List UInt8) : Option T :=
  if 200 < code.length then none else
  match runI (cutL 32 code) [] [] with
  | some ([t], []) => if codeT (textT t) = some code then some t else none
  | _ => none
/-! ### what it builds -/
def szT (st : List T) : Nat := (st.map fun t => (textT t).length).sum
theorem szT_cons (x : T) (st : List T) : szT (x :: st) = (textT x).length + szT st := by simp [szT]
theorem doI_sz {s : List UInt8} {st st' : List T} {op op' : List (UInt8 × UInt8)} (h : doI s st op = some (st', op')) : szT st' ≤ szT st + 5 := by
  unfold doI at h
  split at h
  · rename_i a
    split at h
    · split at h
      · cases h
      · rename_i c v op1
        split at h
        · rename_i y x st1
          simp only [Option.some.injEq, Prod.mk.injEq] at h
          obtain ⟨rfl, rfl⟩ := h
          simp only [szT_cons, textT, List.length_cons, List.length_append, List.length_nil]
          omega
        · cases h
    split at h
    · split at h
      · rename_i x st1
        simp only [Option.some.injEq, Prod.mk.injEq] at h
        obtain ⟨rfl, rfl⟩ := h
        simp only [szT_cons, textT, List.length_cons, List.length_append, List.length_nil]
        omega
      · cases h
    split at h
    · split at h
      · rename_i y x st1
        simp only [Option.some.injEq, Prod.mk.injEq] at h
        obtain ⟨rfl, rfl⟩ := h
        simp only [szT_cons, textT, List.length_cons, List.length_append, List.length_nil]
        omega
      · cases h
    · simp only [Option.some.injEq, Prod.mk.injEq] at h
      obtain ⟨rfl, rfl⟩ := h
      have : (textT (leafI a)).length = 1 := by unfold leafI; split <;> rfl
      simp only [szT_cons]
      omega
  · rename_i a v
    split at h
    · simp only [Option.some.injEq, Prod.mk.injEq] at h
      obtain ⟨rfl, rfl⟩ := h
      omega
    · cases h
  · cases h
theorem runI_sz : ∀ {l : List (List UInt8)} {st st' : List T} {op op' : List (UInt8 × UInt8)}, runI l st op = some (st', op') → szT st' ≤ szT st + 5 * l.length
  | [], st, st', op, op', h => by
    simp only [runI, Option.some.injEq, Prod.mk.injEq] at h
    obtain ⟨rfl, rfl⟩ := h
    simp
  | s :: l, st, st', op, op', h => by
    simp only [runI] at h
    split at h
    · rename_i st1 op1 h1
      have := runI_sz h
      have := doI_sz h1
      simp only [List.length_cons]
      omega
    · cases h
def OpOk (op : List (UInt8 × UInt8)) : Prop := ∀ q ∈ op, q.1 = 91 ∨ q.1 = 123
theorem doI_l {s : List UInt8} {st st' : List T} {op op' : List (UInt8 × UInt8)} (h : doI s st op = some (st', op')) (h1 : ∀ t ∈ st, WFL t) (h2 : OpOk op) : (∀ t ∈ st', WFL t) ∧ OpOk op' := by
  unfold doI at h
  split at h
  · rename_i a
    split at h
    · split at h
      · cases h
      · rename_i c v op1
        split at h
        · rename_i y x st1
          simp only [Option.some.injEq, Prod.mk.injEq] at h
          obtain ⟨rfl, rfl⟩ := h
          refine ⟨fun t ht => ?_, fun q hq => h2 q (by simp [hq])⟩
          rcases List.mem_cons.1 ht with rfl | ht
          · exact ⟨h2 (c, v) (by simp), h1 x (by simp), h1 y (by simp)⟩
          · exact h1 t (by simp [ht])
        · cases h
    split at h
    · split at h
      · rename_i x st1
        simp only [Option.some.injEq, Prod.mk.injEq] at h
        obtain ⟨rfl, rfl⟩ := h
        refine ⟨fun t ht => ?_, h2⟩
        rcases List.mem_cons.1 ht with rfl | ht
        · exact h1 x (by simp)
        · exact h1 t (by simp [ht])
      · cases h
    split at h
    · split at h
      · rename_i y x st1
        simp only [Option.some.injEq, Prod.mk.injEq] at h
        obtain ⟨rfl, rfl⟩ := h
        refine ⟨fun t ht => ?_, h2⟩
        rcases List.mem_cons.1 ht with rfl | ht
        · exact ⟨h1 x (by simp), h1 y (by simp)⟩
        · exact h1 t (by simp [ht])
      · cases h
    · simp only [Option.some.injEq, Prod.mk.injEq] at h
      obtain ⟨rfl, rfl⟩ := h
      refine ⟨fun t ht => ?_, h2⟩
      rcases List.mem_cons.1 ht with rfl | ht
      · unfold leafI
        split <;> exact trivial
      · exact h1 t ht
  · rename_i a v
    split at h
    · rename_i hc
      simp only [Option.some.injEq, Prod.mk.injEq] at h
      obtain ⟨rfl, rfl⟩ := h
      refine ⟨h1, fun q hq => ?_⟩
      rcases List.mem_cons.1 hq with rfl | hq
      · exact hc
      · exact h2 q hq
    · cases h
  · cases h
theorem runI_l : ∀ {l : List (List UInt8)} {st st' : List T} {op op' : List (UInt8 × UInt8)}, runI l st op = some (st', op') → (∀ t ∈ st, WFL t) → OpOk op → (∀ t ∈ st', WFL t) ∧ OpOk op'
  | [], st, st', op, op', h, h1, h2 => by
    simp only [runI, Option.some.injEq, Prod.mk.injEq] at h
    obtain ⟨rfl, rfl⟩ := h
    exact ⟨h1, h2⟩
  | s :: l, st, st', op, op', h, h1, h2 => by
    simp only [runI] at h
    split at h
    · rename_i st1 op1 h3
      obtain ⟨k1, k2⟩ := doI_l h3 h1 h2
      exact runI_l h k1 k2
    · cases h
/-! ### the code of a term gives it -/
theorem runI_app : ∀ {l r : List (List UInt8)} {st st1 : List T} {op op1 : List (UInt8 × UInt8)}, runI l st op = some (st1, op1) → runI (l ++ r) st op = runI r st1 op1
  | [], r, st, st1, op, op1, h => by
    simp only [runI, Option.some.injEq, Prod.mk.injEq] at h
    obtain ⟨rfl, rfl⟩ := h
    rfl
  | s :: l, r, st, st1, op, op1, h => by
    simp only [runI] at h
    rw [List.cons_append, runI]
    split at h
    · exact runI_app h
    · cases h
theorem end_not {a : UInt8} (h : a = 93 ∨ a = 125) : isOne a = false ∧ isTwo a = false ∧ isDig a = false ∧ isVar a = false := by rcases h with rfl | rfl <;> exact ⟨rfl, rfl, rfl, rfl⟩
theorem not_end {a : UInt8} (h : isOne a = true ∨ isTwo a = true ∨ isDig a = true ∨ isVar a = true) : ¬ (a = 93 ∨ a = 125) := by
  intro k
  have := end_not k
  simp [this] at h
theorem dig_not_one {a : UInt8} (h : isDig a = true) : isOne a = false ∧ isTwo a = false := by
  constructor
  · cases hx : isOne a
    · rfl
    · have := (one_not hx).2; rw [h] at this; cases this
  · cases hx : isTwo a
    · rfl
    · have := (two_not hx).2.1; rw [h] at this; cases this
theorem var_not_one {a : UInt8} (h : isVar a = true) : isOne a = false ∧ isTwo a = false := by
  constructor
  · cases hx : isOne a
    · rfl
    · have := (one_not hx).1; rw [h] at this; cases this
  · cases hx : isTwo a
    · rfl
    · have := (two_not hx).1; rw [h] at this; cases this
theorem runI_list : ∀ (t : T), WF t → ∀ (st : List T) (op : List (UInt8 × UInt8)), runI (listT t) st op = some (t :: st, op) := by
  intro t
  induction t with
  | dig c =>
    intro hw st op
    have hw : isDig c = true := hw
    have h1 := dig_not_one hw
    have h2 := not_end (.inr (.inr (.inl hw)))
    simp only [listT, runI, doI, if_neg h2, h1.1, h1.2, leafI, hw]
    rfl
  | var c =>
    intro hw st op
    have hw : isVar c = true := hw
    have h1 := var_not_one hw
    have h2 := not_end (.inr (.inr (.inr hw)))
    simp only [listT, runI, doI, if_neg h2, h1.1, h1.2, leafI, var_not hw]
    rfl
  | one s x ih =>
    intro hw st op
    have h2 := not_end (.inl hw.1)
    rw [listT, runI_app (ih hw.2 st op)]
    simp only [runI, doI, if_neg h2, hw.1, if_true]
  | two s x y ihx ihy =>
    intro hw st op
    have h2 := not_end (.inr (.inl hw.1))
    have h1 := (two_not hw.1).2.2
    rw [listT, List.append_assoc, runI_app (ihx hw.2.1 st op), runI_app (ihy hw.2.2 _ op)]
    simp only [runI, doI, if_neg h2, hw.1, h1, if_true]
    rfl
  | loop s v x y ihx ihy =>
    intro hw st op
    have e1 : runI [[s, v]] (x :: st) op = some (x :: st, (s, v) :: op) := by
      simp only [runI, doI, if_pos hw.1]
    have h2 : s + 2 = 93 ∨ s + 2 = 125 := by rcases hw.1 with rfl | rfl <;> decide
    rw [listT, List.append_assoc, List.append_assoc, runI_app (ihx hw.2.2.1 st op), runI_app e1, runI_app (ihy hw.2.2.2 _ _)]
    simp only [runI, doI, if_pos h2]
/-! ### both build the same -/
theorem cutL_len (c : UInt8) (l : List UInt8) : (cutL c l).length ≤ l.length + 1 := by
  rw [cutL, cutF_len]
  have := List.count_le_length (a := c) (l := l)
  omega
theorem spec_impl {code : List UInt8} {t : T} {hs ls : List Nat} (h : specB code = some (t, hs, ls)) : implB code = some t ∧ WF t ∧ cutL 32 code = listT t ∧ runP (listT t) ⟨[], []⟩ = some (⟨[t], []⟩, hs, ls) ∧ rdT (textT t) = some t := by
  unfold specB at h
  split at h
  · cases h
  · rename_i hl
    split at h
    · rename_i t' hs' ls' hr
      split at h
      · rename_i h80
        simp only [Option.some.injEq, Prod.mk.injEq] at h
        obtain ⟨rfl, rfl, rfl⟩ := h
        obtain ⟨hw, hc⟩ := runP_back hr
        have hrd := rdT_of hw h80
        have e : joinS (listT t') = code := by rw [hc, join_cut]
        refine ⟨?_, hw, hc.symm, by rw [hc]; exact hr, hrd⟩
        unfold implB
        rw [if_neg hl, ← hc, runI_list t' hw]
        simp only [codeT, hrd, Option.map_some, e, if_true]
      · cases h
    · cases h
theorem impl_spec {code : List UInt8} {t : T} (h : implB code = some t) : ∃ hs ls, specB code = some (t, hs, ls) := by
  unfold implB at h
  split at h
  · cases h
  · rename_i hl
    split at h
    · rename_i t' hr
      split at h
      · rename_i hc
        obtain rfl := Option.some.inj h
        unfold codeT at hc
        cases hrd : rdT (textT t') with
        | none => rw [hrd] at hc; cases hc
        | some u =>
          rw [hrd] at hc
          simp only [Option.map_some, Option.some.injEq] at hc
          obtain ⟨hw, h1, h2⟩ := rdT_wf hrd
          have e1 : cutL 32 code = listT u := by rw [← hc, cut_list hw]
          rw [e1, runI_list u hw] at hr
          simp only [Option.some.injEq, Prod.mk.injEq, List.cons.injEq, and_true] at hr
          subst hr
          obtain ⟨hs, ls, h3⟩ := runP_list u hw ⟨[], []⟩ (Nat.le_refl _)
          refine ⟨hs, ls, ?_⟩
          unfold specB
          rw [if_neg hl, e1, h3]
          simp only
          rw [if_pos h2]
      · cases h
    · cases h
theorem impl_eq (code : List UInt8) : implB code = (specB code).map (·.1) := by
  cases h : specB code with
  | none =>
    cases k : implB code with
    | none => rfl
    | some t =>
      obtain ⟨hs, ls, e⟩ := impl_spec k
      rw [h] at e; cases e
  | some q =>
    obtain ⟨t, hs, ls⟩ := q
    exact (spec_impl h).1
end
end Go.Proofs.YtkmnidbodlmaaaaDoor.Ev

/-
Code: what the reference's builder does at an instruction.
-/
namespace Go.Proofs.YtkmnidbodlmaaaaDoor.Ev
section
set_option linter.unusedVariables false
set_option linter.unusedSimpArgs false
open Go Go.RowKit
set_option linter.unusedVariables false
set_option linter.unusedSimpArgs false
theorem do_a {p : PS} {a b c : RS} (h : BR p a b c) (x : UInt8) (hx : isDig x = true ∨ isVar x = true) :
    EE 74 [lent 75 [rsV a, rsV b, rsV c], S [x]] = some (.t [B true, .t [lent 75 [rsV (pushR a (encN (leafI x))), rsV b, rsV c], S [x]]]) := by
  have ho := h.ok
  refine EE_rows (os := [a, b, c]) (xs := [S [x]]) T_do rfl (Nat.le_of_ble_eq_true rfl) (in3 ho.ha ho.hb ho.hc) rfl ?_
  intro ds σ k L hR hn hσ hL hk1 hk
  rw [show opt 74 = [] from rfl]
  simp only [bodyOf, Tryd.f74, SA]
  have hkd : EE 57 [S [x]] = some (.v (.int .u8 97)) := by rw [l7Kind_ev, kind_a hx]; rfl
  have hpu := push_br h (leafI x)
  have hok := in3 (pushR_ok ho.ha ho.aS (encN_len (leafI x)) (encN_closed _)) ho.hb ho.hc
  cases hd : isDig x
  · have e : leafI x = .var x := by simp [leafI, hd]
    rw [e] at hpu hok ⊢
    simp only [hkd, l1In_ev, in_dig, wrap_u8, hd, IA, PA, RA0, RA1, RA2, RA3, RA4, RA5, RA6, RA7, RA8, RA9, RA10, Nat.reduceAdd, Nat.reduceMul, Nat.reduceEqDiff, Nat.reduceLeDiff, Nat.reduceLT, Int.reduceToNat, Int.reduceLT, Int.reduceLE, Int.reduceEq, Int.reduceNeg, Int.reduceAdd, Int.reduceSub, Int.reduceMul, reduceIte]
    simp only [encN] at hpu
    rw [call_ob_eq (os' := [pushR a (encN (.var x)), b, c]) (by rfl) hσ hR.leaf hn (by rfl) (by exact hpu) hok (by rfl) (Nat.le_of_ble_eq_true rfl)]
    generalize hτ : aftS _ _ _ _ _ _ = τ
    obtain ⟨ds', L', f1, f2, f3, f4, f5⟩ := aft_of hτ hok (by omega)
    clear hτ
    simp only [f1, IA, PA, RA0, RA1, RA2, RA3, RA4, RA5, RA6, RA7, RA8, RA9, RA10, Nat.reduceAdd, Nat.reduceMul, Nat.reduceEqDiff, Nat.reduceLeDiff, Nat.reduceLT, Int.reduceToNat, Int.reduceLT, Int.reduceLE, Int.reduceEq, Int.reduceNeg, Int.reduceAdd, Int.reduceSub, Int.reduceMul, reduceIte]
    refine out_rows_one (ds := ds') (ps := [rsV (pushR a (encN (.var x))), rsV b, rsV c]) (L := L') ?_ (by rfl) (by exact f1) f2.leaf f3 (by rfl)
    simp only [IA, PA, RA0, RA1, RA2, RA3, RA4, RA5, RA6, RA7, RA8, RA9, RA10, Nat.reduceAdd, Nat.reduceMul, Nat.reduceEqDiff, Nat.reduceLeDiff, Nat.reduceLT, Int.reduceToNat, Int.reduceLT, Int.reduceLE, Int.reduceEq, Int.reduceNeg, Int.reduceAdd, Int.reduceSub, Int.reduceMul, reduceIte]
  · have e : leafI x = .dig x := by simp [leafI, hd]
    rw [e] at hpu hok ⊢
    simp only [hkd, l1In_ev, in_dig, wrap_u8, hd, IA, PA, RA0, RA1, RA2, RA3, RA4, RA5, RA6, RA7, RA8, RA9, RA10, Nat.reduceAdd, Nat.reduceMul, Nat.reduceEqDiff, Nat.reduceLeDiff, Nat.reduceLT, Int.reduceToNat, Int.reduceLT, Int.reduceLE, Int.reduceEq, Int.reduceNeg, Int.reduceAdd, Int.reduceSub, Int.reduceMul, reduceIte]
    simp only [encN] at hpu
    rw [call_ob_eq (os' := [pushR a (encN (.dig x)), b, c]) (by rfl) hσ hR.leaf hn (by rfl) (by exact hpu) hok (by rfl) (Nat.le_of_ble_eq_true rfl)]
    generalize hτ : aftS _ _ _ _ _ _ = τ
    obtain ⟨ds', L', f1, f2, f3, f4, f5⟩ := aft_of hτ hok (by omega)
    clear hτ
    simp only [f1, IA, PA, RA0, RA1, RA2, RA3, RA4, RA5, RA6, RA7, RA8, RA9, RA10, Nat.reduceAdd, Nat.reduceMul, Nat.reduceEqDiff, Nat.reduceLeDiff, Nat.reduceLT, Int.reduceToNat, Int.reduceLT, Int.reduceLE, Int.reduceEq, Int.reduceNeg, Int.reduceAdd, Int.reduceSub, Int.reduceMul, reduceIte]
    refine out_rows_one (ds := ds') (ps := [rsV (pushR a (encN (.dig x))), rsV b, rsV c]) (L := L') ?_ (by rfl) (by exact f1) f2.leaf f3 (by rfl)
    simp only [IA, PA, RA0, RA1, RA2, RA3, RA4, RA5, RA6, RA7, RA8, RA9, RA10, Nat.reduceAdd, Nat.reduceMul, Nat.reduceEqDiff, Nat.reduceLeDiff, Nat.reduceLT, Int.reduceToNat, Int.reduceLT, Int.reduceLE, Int.reduceEq, Int.reduceNeg, Int.reduceAdd, Int.reduceSub, Int.reduceMul, reduceIte]
theorem do_S {p : PS} {a b c : RS} (h : BR p a b c) (x : UInt8) (hx : isOne x = true) {y : T} {r : List T} (hp : popP p.st (baseP p.lp) = some (y, r)) :
    EE 74 [lent 75 [rsV a, rsV b, rsV c], S [x]] = some (.t [B true, .t [lent 75 [rsV (pushR (popR a (r.reverse.flatMap encN)) (encN (.one x y))), rsV b, rsV c], S [x]]]) := by
  have ho := h.ok
  have hpo := pop_br h hp
  obtain ⟨hs, hle⟩ := popP_some hp
  have h1 := h.popped hs
  have ho1 := h1.ok
  have hpu := push_br h1 (.one x y)
  have hok1 := in3 ho1.ha ho1.hb ho1.hc
  have hok := in3 (pushR_ok ho1.ha ho1.aS (encN_len (.one x y)) (encN_closed _)) ho1.hb ho1.hc
  refine EE_rows (os := [a, b, c]) (xs := [S [x]]) T_do rfl (Nat.le_of_ble_eq_true rfl) (in3 ho.ha ho.hb ho.hc) rfl ?_
  intro ds σ k L hR hn hσ hL hk1 hk
  rw [show opt 74 = [] from rfl]
  simp only [bodyOf, Tryd.f74, SA]
  have hkd : EE 57 [S [x]] = some (.v (.int .u8 83)) := by rw [l7Kind_ev, kind_S hx]; rfl
  simp only [hkd, IA, PA, RA0, RA1, RA2, RA3, RA4, RA5, RA6, RA7, RA8, RA9, RA10, Nat.reduceAdd, Nat.reduceMul, Nat.reduceEqDiff, Nat.reduceLeDiff, Nat.reduceLT, Int.reduceToNat, Int.reduceLT, Int.reduceLE, Int.reduceEq, Int.reduceNeg, Int.reduceAdd, Int.reduceSub, Int.reduceMul, reduceIte]
  rw [call_ob_eq (os' := [popR a (r.reverse.flatMap encN), b, c]) (by rfl) hσ hR.leaf hn (by rfl) (by exact hpo) hok1 (by simp only [closed, closedL, encN_closed, Bool.and_self]) (by simp only [room, closed, closedL, encN_closed, Bool.and_self]; exact Nat.le_of_ble_eq_true rfl)]
  generalize hτ : aftS _ _ _ _ _ _ = τ
  obtain ⟨ds1, L1, f11, f12, f13, f14, f15⟩ := aft_of hτ hok1 (by omega)
  clear hτ
  simp only [List.length_cons, List.length_nil] at f14
  simp only [f11, TMA, IA, PA, RA0, RA1, RA2, RA3, RA4, RA5, RA6, RA7, RA8, RA9, RA10, Nat.reduceAdd, Nat.reduceMul, Nat.reduceEqDiff, Nat.reduceLeDiff, Nat.reduceLT, Int.reduceToNat, Int.reduceLT, Int.reduceLE, Int.reduceEq, Int.reduceNeg, Int.reduceAdd, Int.reduceSub, Int.reduceMul, reduceIte]
  rw [call_ob_eq (os' := [pushR (popR a (r.reverse.flatMap encN)) (encN (.one x y)), b, c]) (by rfl) (by simp only [upd]; repeat rw [if_neg (by omega)]; exact f11) (f12.frame (fun r hr => by have := f14 r hr; simp only [upd]; repeat rw [if_neg (by omega)])).leaf f13 (by simp only [List.all_cons, List.all_nil, goes, closed, closedL, closedL_append, encN_closed, Bool.and_self]) (by exact hpu) hok (by rfl) ((Nat.le_of_ble_eq_true rfl))]
  generalize hτ2 : aftS _ _ _ _ _ _ = τ2
  obtain ⟨ds2, L2, f21, f22, f23, f24, f25⟩ := aft_of hτ2 hok (by omega)
  clear hτ2
  simp only [List.length_cons, List.length_nil] at f24
  simp only [f21, TMA, IA, PA, RA0, RA1, RA2, RA3, RA4, RA5, RA6, RA7, RA8, RA9, RA10, Nat.reduceAdd, Nat.reduceMul, Nat.reduceEqDiff, Nat.reduceLeDiff, Nat.reduceLT, Int.reduceToNat, Int.reduceLT, Int.reduceLE, Int.reduceEq, Int.reduceNeg, Int.reduceAdd, Int.reduceSub, Int.reduceMul, reduceIte]
  refine out_rows_one (x := B true) (ds := ds2) (ps := [rsV (pushR (popR a (r.reverse.flatMap encN)) (encN (.one x y))), rsV b, rsV c]) (L := L2) ?_ (by rfl) (by exact f21) f22.leaf f23 (by rfl)
  simp only [IA, PA, RA0, RA1, RA2, RA3, RA4, RA5, RA6, RA7, RA8, RA9, RA10, Nat.reduceAdd, Nat.reduceMul, Nat.reduceEqDiff, Nat.reduceLeDiff, Nat.reduceLT, Int.reduceToNat, Int.reduceLT, Int.reduceLE, Int.reduceEq, Int.reduceNeg, Int.reduceAdd, Int.reduceSub, Int.reduceMul, reduceIte]
theorem do_S_no {p : PS} {a b c : RS} (h : BR p a b c) (x : UInt8) (hx : isOne x = true) (hb : baseP p.lp < 1000000000) (hp : popP p.st (baseP p.lp) = none) :
    EE 74 [lent 75 [rsV a, rsV b, rsV c], S [x]] = some (.t [B false, .t [lent 75 [rsV (pushR a [U x, U 0, .s true 1 zeroN]), rsV b, rsV c], S [x]]]) := by
  have ho := h.ok
  have hpo := pop_br_none h hb hp
  have hc3 : ([U x, U 0, .s true 1 zeroN] : List AV).length = 3 := rfl
  have hcc : closedL [U x, U 0, .s true 1 zeroN] = true := rfl
  have hpu := push_ok a b c ho [U x, U 0, .s true 1 zeroN] hc3 rfl hcc
  have hok1 := in3 ho.ha ho.hb ho.hc
  have hok := in3 (pushR_ok ho.ha ho.aS hc3 hcc) ho.hb ho.hc
  refine EE_rows (os := [a, b, c]) (xs := [S [x]]) T_do rfl (Nat.le_of_ble_eq_true rfl) (in3 ho.ha ho.hb ho.hc) rfl ?_
  intro ds σ k L hR hn hσ hL hk1 hk
  rw [show opt 74 = [] from rfl]
  simp only [bodyOf, Tryd.f74, SA]
  have hkd : EE 57 [S [x]] = some (.v (.int .u8 83)) := by rw [l7Kind_ev, kind_S hx]; rfl
  simp only [hkd, IA, PA, RA0, RA1, RA2, RA3, RA4, RA5, RA6, RA7, RA8, RA9, RA10, Nat.reduceAdd, Nat.reduceMul, Nat.reduceEqDiff, Nat.reduceLeDiff, Nat.reduceLT, Int.reduceToNat, Int.reduceLT, Int.reduceLE, Int.reduceEq, Int.reduceNeg, Int.reduceAdd, Int.reduceSub, Int.reduceMul, reduceIte]
  rw [call_ob_eq (os' := [a, b, c]) (by rfl) hσ hR.leaf hn (by rfl) (by exact hpo) hok1 (by rfl) (by simp only [room, closed, closedL, zeroN, Bool.and_self]; exact Nat.le_of_ble_eq_true rfl)]
  generalize hτ : aftS _ _ _ _ _ _ = τ
  obtain ⟨ds1, L1, f11, f12, f13, f14, f15⟩ := aft_of hτ hok1 (by omega)
  clear hτ
  simp only [List.length_cons, List.length_nil] at f14
  simp only [f11, zeroN, TMA, IA, PA, RA0, RA1, RA2, RA3, RA4, RA5, RA6, RA7, RA8, RA9, RA10, Nat.reduceAdd, Nat.reduceMul, Nat.reduceEqDiff, Nat.reduceLeDiff, Nat.reduceLT, Int.reduceToNat, Int.reduceLT, Int.reduceLE, Int.reduceEq, Int.reduceNeg, Int.reduceAdd, Int.reduceSub, Int.reduceMul, reduceIte]
  rw [call_ob_eq (os' := [pushR a [U x, U 0, .s true 1 zeroN], b, c]) (by rfl) (by simp only [upd]; repeat rw [if_neg (by omega)]; exact f11) (f12.frame (fun r hr => by have := f14 r hr; simp only [upd]; repeat rw [if_neg (by omega)])).leaf f13 (by rfl) (by exact hpu) hok (by rfl) ((Nat.le_of_ble_eq_true rfl))]
  generalize hτ2 : aftS _ _ _ _ _ _ = τ2
  obtain ⟨ds2, L2, f21, f22, f23, f24, f25⟩ := aft_of hτ2 hok (by omega)
  clear hτ2
  simp only [List.length_cons, List.length_nil] at f24
  simp only [f21, TMA, IA, PA, RA0, RA1, RA2, RA3, RA4, RA5, RA6, RA7, RA8, RA9, RA10, Nat.reduceAdd, Nat.reduceMul, Nat.reduceEqDiff, Nat.reduceLeDiff, Nat.reduceLT, Int.reduceToNat, Int.reduceLT, Int.reduceLE, Int.reduceEq, Int.reduceNeg, Int.reduceAdd, Int.reduceSub, Int.reduceMul, reduceIte]
  refine out_rows_one (x := B false) (ds := ds2) (ps := [rsV (pushR a [U x, U 0, .s true 1 zeroN]), rsV b, rsV c]) (L := L2) ?_ (by rfl) (by exact f21) f22.leaf f23 (by rfl)
  simp only [IA, PA, RA0, RA1, RA2, RA3, RA4, RA5, RA6, RA7, RA8, RA9, RA10, Nat.reduceAdd, Nat.reduceMul, Nat.reduceEqDiff, Nat.reduceLeDiff, Nat.reduceLT, Int.reduceToNat, Int.reduceLT, Int.reduceLE, Int.reduceEq, Int.reduceNeg, Int.reduceAdd, Int.reduceSub, Int.reduceMul, reduceIte]
theorem do_2 {p : PS} {a b c : RS} (h : BR p a b c) (x : UInt8) (hx : isTwo x = true) {y z : T} {r r2 : List T} (hp : popP p.st (baseP p.lp) = some (y, r)) (hq : popP r (baseP p.lp) = some (z, r2)) :
    EE 74 [lent 75 [rsV a, rsV b, rsV c], S [x]] = some (.t [B true, .t [lent 75 [rsV (pushR (popR (popR a (r.reverse.flatMap encN)) (r2.reverse.flatMap encN)) (encN (.two x z y))), rsV b, rsV c], S [x]]]) := by
  have ho := h.ok
  have hpo := pop_br h hp
  obtain ⟨hs, hle⟩ := popP_some hp
  have h1 := h.popped hs
  have ho1 := h1.ok
  have hpo2 := pop_br h1 hq
  obtain ⟨hs2, hle2⟩ := popP_some hq
  have h2 := h1.popped hs2
  have ho2 := h2.ok
  have hpu := push_br h2 (.two x z y)
  have hok1 := in3 ho1.ha ho1.hb ho1.hc
  have hok2 := in3 ho2.ha ho2.hb ho2.hc
  have hok := in3 (pushR_ok ho2.ha ho2.aS (encN_len (.two x z y)) (encN_closed _)) ho2.hb ho2.hc
  refine EE_rows (os := [a, b, c]) (xs := [S [x]]) T_do rfl (Nat.le_of_ble_eq_true rfl) (in3 ho.ha ho.hb ho.hc) rfl ?_
  intro ds σ k L hR hn hσ hL hk1 hk
  rw [show opt 74 = [] from rfl]
  simp only [bodyOf, Tryd.f74, SA]
  have hkd : EE 57 [S [x]] = some (.v (.int .u8 43)) := by rw [l7Kind_ev, kind_2 hx]; rfl
  simp only [hkd, IA, PA, RA0, RA1, RA2, RA3, RA4, RA5, RA6, RA7, RA8, RA9, RA10, Nat.reduceAdd, Nat.reduceMul, Nat.reduceEqDiff, Nat.reduceLeDiff, Nat.reduceLT, Int.reduceToNat, Int.reduceLT, Int.reduceLE, Int.reduceEq, Int.reduceNeg, Int.reduceAdd, Int.reduceSub, Int.reduceMul, reduceIte]
  rw [call_ob_eq (os' := [popR a (r.reverse.flatMap encN), b, c]) (by rfl) hσ hR.leaf hn (by rfl) (by exact hpo) hok1 (by simp only [closed, closedL, encN_closed, Bool.and_self]) (by simp only [room, closed, closedL, encN_closed, Bool.and_self]; exact Nat.le_of_ble_eq_true rfl)]
  generalize hτ : aftS _ _ _ _ _ _ = τ
  obtain ⟨ds1, L1, f11, f12, f13, f14, f15⟩ := aft_of hτ hok1 (by omega)
  clear hτ
  simp only [List.length_cons, List.length_nil] at f14
  simp only [f11, TMA, IA, PA, RA0, RA1, RA2, RA3, RA4, RA5, RA6, RA7, RA8, RA9, RA10, Nat.reduceAdd, Nat.reduceMul, Nat.reduceEqDiff, Nat.reduceLeDiff, Nat.reduceLT, Int.reduceToNat, Int.reduceLT, Int.reduceLE, Int.reduceEq, Int.reduceNeg, Int.reduceAdd, Int.reduceSub, Int.reduceMul, reduceIte]
  rw [call_ob_eq (os' := [popR (popR a (r.reverse.flatMap encN)) (r2.reverse.flatMap encN), b, c]) (by rfl) (by simp only [upd]; repeat rw [if_neg (by omega)]; exact f11) (f12.frame (fun r hr => by have := f14 r hr; simp only [upd]; repeat rw [if_neg (by omega)])).leaf f13 (by rfl) (by exact hpo2) hok2 (by simp only [closed, closedL, encN_closed, Bool.and_self]) (by simp only [room, closed, closedL, encN_closed, Bool.and_self]; exact Nat.le_of_ble_eq_true rfl)]
  generalize hτ2 : aftS _ _ _ _ _ _ = τ2
  obtain ⟨ds2, L2, f21, f22, f23, f24, f25⟩ := aft_of hτ2 hok2 (by omega)
  clear hτ2
  simp only [List.length_cons, List.length_nil] at f24
  have hbx : τ2 (k + 4 + 8 + 8 + 8 + 8 + 20) = some (.ob 42 (encN y)) := by
    rw [f25 _ (by omega) (fun hm => by have := f14 _ hm; omega) (.inl (by omega)), upd, if_pos rfl]
  have hne : ¬ (k = k + 32) := by omega
  simp only [f21, hbx, hne, TMA, IA, PA, RA0, RA1, RA2, RA3, RA4, RA5, RA6, RA7, RA8, RA9, RA10, Nat.reduceAdd, Nat.reduceMul, Nat.reduceEqDiff, Nat.reduceLeDiff, Nat.reduceLT, Int.reduceToNat, Int.reduceLT, Int.reduceLE, Int.reduceEq, Int.reduceNeg, Int.reduceAdd, Int.reduceSub, Int.reduceMul, reduceIte]
  rw [call_ob_eq (os' := [pushR (popR (popR a (r.reverse.flatMap encN)) (r2.reverse.flatMap encN)) (encN (.two x z y)), b, c]) (by rfl) (by simp only [upd]; repeat rw [if_neg (by omega)]; exact f21) (f22.frame (fun r hr => by have := f24 r hr; simp only [upd]; repeat rw [if_neg (by omega)])).leaf f23 (by simp only [List.all_cons, List.all_nil, goes, closed, closedL, closedL_append, encN_closed, Bool.and_self]) (by exact hpu) hok (by rfl) ((Nat.le_of_ble_eq_true rfl))]
  generalize hτ3 : aftS _ _ _ _ _ _ = τ3
  obtain ⟨ds3, L3, f31, f32, f33, f34, f35⟩ := aft_of hτ3 hok (by omega)
  clear hτ3
  simp only [List.length_cons, List.length_nil] at f34
  simp only [f31, TMA, IA, PA, RA0, RA1, RA2, RA3, RA4, RA5, RA6, RA7, RA8, RA9, RA10, Nat.reduceAdd, Nat.reduceMul, Nat.reduceEqDiff, Nat.reduceLeDiff, Nat.reduceLT, Int.reduceToNat, Int.reduceLT, Int.reduceLE, Int.reduceEq, Int.reduceNeg, Int.reduceAdd, Int.reduceSub, Int.reduceMul, reduceIte]
  refine out_rows_one (x := B true) (ds := ds3) (ps := [rsV (pushR (popR (popR a (r.reverse.flatMap encN)) (r2.reverse.flatMap encN)) (encN (.two x z y))), rsV b, rsV c]) (L := L3) ?_ (by rfl) (by exact f31) f32.leaf f33 (by rfl)
  simp only [IA, PA, RA0, RA1, RA2, RA3, RA4, RA5, RA6, RA7, RA8, RA9, RA10, Nat.reduceAdd, Nat.reduceMul, Nat.reduceEqDiff, Nat.reduceLeDiff, Nat.reduceLT, Int.reduceToNat, Int.reduceLT, Int.reduceLE, Int.reduceEq, Int.reduceNeg, Int.reduceAdd, Int.reduceSub, Int.reduceMul, reduceIte]
theorem do_2_no {p : PS} {a b c : RS} (h : BR p a b c) (x : UInt8) (hx : isTwo x = true) (hb : baseP p.lp < 1000000000) (hp : popP p.st (baseP p.lp) = none) :
    EE 74 [lent 75 [rsV a, rsV b, rsV c], S [x]] = some (.t [B false, .t [lent 75 [rsV (pushR a [U x, U 0, .s true 2 (zeroN ++ zeroN)]), rsV b, rsV c], S [x]]]) := by
  have ho := h.ok
  have hpo := pop_br_none h hb hp
  have hc3 : ([U x, U 0, .s true 2 (zeroN ++ zeroN)] : List AV).length = 3 := rfl
  have hcc : closedL [U x, U 0, .s true 2 (zeroN ++ zeroN)] = true := rfl
  have hpu := push_ok a b c ho [U x, U 0, .s true 2 (zeroN ++ zeroN)] hc3 rfl hcc
  have hok1 := in3 ho.ha ho.hb ho.hc
  have hok := in3 (pushR_ok ho.ha ho.aS hc3 hcc) ho.hb ho.hc
  refine EE_rows (os := [a, b, c]) (xs := [S [x]]) T_do rfl (Nat.le_of_ble_eq_true rfl) (in3 ho.ha ho.hb ho.hc) rfl ?_
  intro ds σ k L hR hn hσ hL hk1 hk
  rw [show opt 74 = [] from rfl]
  simp only [bodyOf, Tryd.f74, SA]
  have hkd : EE 57 [S [x]] = some (.v (.int .u8 43)) := by rw [l7Kind_ev, kind_2 hx]; rfl
  simp only [hkd, IA, PA, RA0, RA1, RA2, RA3, RA4, RA5, RA6, RA7, RA8, RA9, RA10, Nat.reduceAdd, Nat.reduceMul, Nat.reduceEqDiff, Nat.reduceLeDiff, Nat.reduceLT, Int.reduceToNat, Int.reduceLT, Int.reduceLE, Int.reduceEq, Int.reduceNeg, Int.reduceAdd, Int.reduceSub, Int.reduceMul, reduceIte]
  rw [call_ob_eq (os' := [a, b, c]) (by rfl) hσ hR.leaf hn (by rfl) (by exact hpo) hok1 (by rfl) (by simp only [room, closed, closedL, zeroN, Bool.and_self]; exact Nat.le_of_ble_eq_true rfl)]
  generalize hτ : aftS _ _ _ _ _ _ = τ
  obtain ⟨ds1, L1, f11, f12, f13, f14, f15⟩ := aft_of hτ hok1 (by omega)
  clear hτ
  simp only [List.length_cons, List.length_nil] at f14
  simp only [f11, zeroN, TMA, IA, PA, RA0, RA1, RA2, RA3, RA4, RA5, RA6, RA7, RA8, RA9, RA10, Nat.reduceAdd, Nat.reduceMul, Nat.reduceEqDiff, Nat.reduceLeDiff, Nat.reduceLT, Int.reduceToNat, Int.reduceLT, Int.reduceLE, Int.reduceEq, Int.reduceNeg, Int.reduceAdd, Int.reduceSub, Int.reduceMul, reduceIte]
  rw [call_ob_eq (os' := [a, b, c]) (by rfl) (by simp only [upd]; repeat rw [if_neg (by omega)]; exact f11) (f12.frame (fun r hr => by have := f14 r hr; simp only [upd]; repeat rw [if_neg (by omega)])).leaf f13 (by rfl) (by exact hpo) hok1 (by rfl) (by simp only [room, closed, closedL, zeroN, Bool.and_self]; exact Nat.le_of_ble_eq_true rfl)]
  generalize hτ2 : aftS _ _ _ _ _ _ = τ2
  obtain ⟨ds2, L2, f21, f22, f23, f24, f25⟩ := aft_of hτ2 hok1 (by omega)
  clear hτ2
  simp only [List.length_cons, List.length_nil] at f24
  have hbx : τ2 (k + 4 + 8 + 8 + 8 + 8 + 20) = some (.ob 42 ([U 0, U 0, .s true 0 []])) := by
    rw [f25 _ (by omega) (fun hm => by have := f14 _ hm; omega) (.inl (by omega)), upd, if_pos rfl]
  have hne : ¬ (k = k + 32) := by omega
  simp only [f21, hbx, hne, zeroN, TMA, IA, PA, RA0, RA1, RA2, RA3, RA4, RA5, RA6, RA7, RA8, RA9, RA10, Nat.reduceAdd, Nat.reduceMul, Nat.reduceEqDiff, Nat.reduceLeDiff, Nat.reduceLT, Int.reduceToNat, Int.reduceLT, Int.reduceLE, Int.reduceEq, Int.reduceNeg, Int.reduceAdd, Int.reduceSub, Int.reduceMul, reduceIte]
  rw [call_ob_eq (os' := [pushR a [U x, U 0, .s true 2 (zeroN ++ zeroN)], b, c]) (by rfl) (by simp only [upd]; repeat rw [if_neg (by omega)]; exact f21) (f22.frame (fun r hr => by have := f24 r hr; simp only [upd]; repeat rw [if_neg (by omega)])).leaf f23 (by rfl) (by exact hpu) hok (by rfl) ((Nat.le_of_ble_eq_true rfl))]
  generalize hτ3 : aftS _ _ _ _ _ _ = τ3
  obtain ⟨ds3, L3, f31, f32, f33, f34, f35⟩ := aft_of hτ3 hok (by omega)
  clear hτ3
  simp only [List.length_cons, List.length_nil] at f34
  simp only [f31, TMA, IA, PA, RA0, RA1, RA2, RA3, RA4, RA5, RA6, RA7, RA8, RA9, RA10, Nat.reduceAdd, Nat.reduceMul, Nat.reduceEqDiff, Nat.reduceLeDiff, Nat.reduceLT, Int.reduceToNat, Int.reduceLT, Int.reduceLE, Int.reduceEq, Int.reduceNeg, Int.reduceAdd, Int.reduceSub, Int.reduceMul, reduceIte]
  refine out_rows_one (x := B false) (ds := ds3) (ps := [rsV (pushR a [U x, U 0, .s true 2 (zeroN ++ zeroN)]), rsV b, rsV c]) (L := L3) ?_ (by rfl) (by exact f31) f32.leaf f33 (by rfl)
  simp only [IA, PA, RA0, RA1, RA2, RA3, RA4, RA5, RA6, RA7, RA8, RA9, RA10, Nat.reduceAdd, Nat.reduceMul, Nat.reduceEqDiff, Nat.reduceLeDiff, Nat.reduceLT, Int.reduceToNat, Int.reduceLT, Int.reduceLE, Int.reduceEq, Int.reduceNeg, Int.reduceAdd, Int.reduceSub, Int.reduceMul, reduceIte]
theorem do_2_no2 {p : PS} {a b c : RS} (h : BR p a b c) (x : UInt8) (hx : isTwo x = true) {y : T} {r : List T} (hb : baseP p.lp < 1000000000) (hp : popP p.st (baseP p.lp) = some (y, r)) (hq : popP r (baseP p.lp) = none) :
    EE 74 [lent 75 [rsV a, rsV b, rsV c], S [x]] = some (.t [B false, .t [lent 75 [rsV (pushR (popR a (r.reverse.flatMap encN)) [U x, U 0, .s true 2 (zeroN ++ encN y)]), rsV b, rsV c], S [x]]]) := by
  have ho := h.ok
  have hpo := pop_br h hp
  obtain ⟨hs, hle⟩ := popP_some hp
  have h1 := h.popped hs
  have ho1 := h1.ok
  have hpo2 := pop_br_none h1 hb hq
  have hc3 : ([U x, U 0, .s true 2 (zeroN ++ encN y)] : List AV).length = 3 := rfl
  have hcc : closedL [U x, U 0, .s true 2 (zeroN ++ encN y)] = true := by simp only [closed, closedL, zeroN, closedL_append, encN_closed, Bool.and_self]
  have hpu := push_ok _ b c ho1 [U x, U 0, .s true 2 (zeroN ++ encN y)] hc3 rfl hcc
  have hok1 := in3 ho1.ha ho1.hb ho1.hc
  have hok := in3 (pushR_ok ho1.ha ho1.aS hc3 hcc) ho1.hb ho1.hc
  refine EE_rows (os := [a, b, c]) (xs := [S [x]]) T_do rfl (Nat.le_of_ble_eq_true rfl) (in3 ho.ha ho.hb ho.hc) rfl ?_
  intro ds σ k L hR hn hσ hL hk1 hk
  rw [show opt 74 = [] from rfl]
  simp only [bodyOf, Tryd.f74, SA]
  have hkd : EE 57 [S [x]] = some (.v (.int .u8 43)) := by rw [l7Kind_ev, kind_2 hx]; rfl
  simp only [hkd, IA, PA, RA0, RA1, RA2, RA3, RA4, RA5, RA6, RA7, RA8, RA9, RA10, Nat.reduceAdd, Nat.reduceMul, Nat.reduceEqDiff, Nat.reduceLeDiff, Nat.reduceLT, Int.reduceToNat, Int.reduceLT, Int.reduceLE, Int.reduceEq, Int.reduceNeg, Int.reduceAdd, Int.reduceSub, Int.reduceMul, reduceIte]
  rw [call_ob_eq (os' := [popR a (r.reverse.flatMap encN), b, c]) (by rfl) hσ hR.leaf hn (by rfl) (by exact hpo) hok1 (by simp only [closed, closedL, encN_closed, Bool.and_self]) (by simp only [room, closed, closedL, encN_closed, Bool.and_self]; exact Nat.le_of_ble_eq_true rfl)]
  generalize hτ : aftS _ _ _ _ _ _ = τ
  obtain ⟨ds1, L1, f11, f12, f13, f14, f15⟩ := aft_of hτ hok1 (by omega)
  clear hτ
  simp only [List.length_cons, List.length_nil] at f14
  simp only [f11, TMA, IA, PA, RA0, RA1, RA2, RA3, RA4, RA5, RA6, RA7, RA8, RA9, RA10, Nat.reduceAdd, Nat.reduceMul, Nat.reduceEqDiff, Nat.reduceLeDiff, Nat.reduceLT, Int.reduceToNat, Int.reduceLT, Int.reduceLE, Int.reduceEq, Int.reduceNeg, Int.reduceAdd, Int.reduceSub, Int.reduceMul, reduceIte]
  rw [call_ob_eq (os' := [popR a (r.reverse.flatMap encN), b, c]) (by rfl) (by simp only [upd]; repeat rw [if_neg (by omega)]; exact f11) (f12.frame (fun r hr => by have := f14 r hr; simp only [upd]; repeat rw [if_neg (by omega)])).leaf f13 (by rfl) (by exact hpo2) hok1 (by rfl) (by simp only [room, closed, closedL, zeroN, Bool.and_self]; exact Nat.le_of_ble_eq_true rfl)]
  generalize hτ2 : aftS _ _ _ _ _ _ = τ2
  obtain ⟨ds2, L2, f21, f22, f23, f24, f25⟩ := aft_of hτ2 hok1 (by omega)
  clear hτ2
  simp only [List.length_cons, List.length_nil] at f24
  have hbx : τ2 (k + 4 + 8 + 8 + 8 + 8 + 20) = some (.ob 42 (encN y)) := by
    rw [f25 _ (by omega) (fun hm => by have := f14 _ hm; omega) (.inl (by omega)), upd, if_pos rfl]
  have hne : ¬ (k = k + 32) := by omega
  simp only [f21, hbx, hne, zeroN, TMA, IA, PA, RA0, RA1, RA2, RA3, RA4, RA5, RA6, RA7, RA8, RA9, RA10, Nat.reduceAdd, Nat.reduceMul, Nat.reduceEqDiff, Nat.reduceLeDiff, Nat.reduceLT, Int.reduceToNat, Int.reduceLT, Int.reduceLE, Int.reduceEq, Int.reduceNeg, Int.reduceAdd, Int.reduceSub, Int.reduceMul, reduceIte]
  rw [call_ob_eq (os' := [pushR (popR a (r.reverse.flatMap encN)) [U x, U 0, .s true 2 (zeroN ++ encN y)], b, c]) (by rfl) (by simp only [upd]; repeat rw [if_neg (by omega)]; exact f21) (f22.frame (fun r hr => by have := f24 r hr; simp only [upd]; repeat rw [if_neg (by omega)])).leaf f23 (by simp only [List.all_cons, List.all_nil, goes, zeroN, closed, closedL, closedL_append, encN_closed, Bool.and_self]) (by exact hpu) hok (by rfl) ((Nat.le_of_ble_eq_true rfl))]
  generalize hτ3 : aftS _ _ _ _ _ _ = τ3
  obtain ⟨ds3, L3, f31, f32, f33, f34, f35⟩ := aft_of hτ3 hok (by omega)
  clear hτ3
  simp only [List.length_cons, List.length_nil] at f34
  simp only [f31, TMA, IA, PA, RA0, RA1, RA2, RA3, RA4, RA5, RA6, RA7, RA8, RA9, RA10, Nat.reduceAdd, Nat.reduceMul, Nat.reduceEqDiff, Nat.reduceLeDiff, Nat.reduceLT, Int.reduceToNat, Int.reduceLT, Int.reduceLE, Int.reduceEq, Int.reduceNeg, Int.reduceAdd, Int.reduceSub, Int.reduceMul, reduceIte]
  refine out_rows_one (x := B false) (ds := ds3) (ps := [rsV (pushR (popR a (r.reverse.flatMap encN)) [U x, U 0, .s true 2 (zeroN ++ encN y)]), rsV b, rsV c]) (L := L3) ?_ (by rfl) (by exact f31) f32.leaf f33 (by rfl)
  simp only [IA, PA, RA0, RA1, RA2, RA3, RA4, RA5, RA6, RA7, RA8, RA9, RA10, Nat.reduceAdd, Nat.reduceMul, Nat.reduceEqDiff, Nat.reduceLeDiff, Nat.reduceLT, Int.reduceToNat, Int.reduceLT, Int.reduceLE, Int.reduceEq, Int.reduceNeg, Int.reduceAdd, Int.reduceSub, Int.reduceMul, reduceIte]
end
end Go.Proofs.YtkmnidbodlmaaaaDoor.Ev

/-
Code: the reference's builder at the beginning of a loop.
-/
namespace Go.Proofs.YtkmnidbodlmaaaaDoor.Ev
section
set_option linter.unusedVariables false
set_option linter.unusedSimpArgs false
open Go Go.RowKit
set_option linter.unusedVariables false
set_option linter.unusedSimpArgs false
theorem kind_beg {a v : UInt8} (h : a = 91 ∨ a = 123) (hv : isLV v = true) : kindM [a, v] = 91 := by
  rcases h with rfl | rfl <;> simp [kindM, hv]
def begR (b : RS) (E : Nat) (x : AV) : RS := ⟨true, E, 1, b.n + 1, b.cs ++ [x]⟩
theorem begR_ok {b : RS} {E : Nat} {x : AV} (h : rsOk b) (hs : b.sz = 1) (hc : closed x = true) : rsOk (begR b E x) := by
  refine ⟨?_, ?_, fun hh => by cases hh⟩
  · have := h.1
    rw [hs] at this
    simp only [begR, List.length_append, this, List.length_cons, List.length_nil]; omega
  · simp only [begR, closedL_append, h.2.1, closedL, hc, Bool.and_self]
theorem app_other {σ : Sto} {o : RS} {d : AV} {L : List Nat} (h : Rw σ o d L) {key E sz n : Nat} {cs : List AV} {i : Nat} (h1 : i ≠ key) (h2 : i ∉ L) : appSto σ key E sz d n cs i = σ i := by
  refine appSto_other h1 fun id lo k hd he => ?_
  obtain ⟨h0, ⟨hb, rfl, rfl⟩ | ⟨r, hb, rfl, rfl, hσ⟩⟩ := h
  · cases hd
  · cases hd
    exact h2 (by simp [he])
theorem do_beg {p : PS} {a b c : RS} (h : BR p a b c) (x v : UInt8) (hx : x = 91 ∨ x = 123) (hv : isLV v = true) (hlt : baseP p.lp < p.st.length) :
    EE 74 [lent 75 [rsV a, rsV b, rsV c], S [x, v]] = some (.t [B true, .t [lent 75 [rsV a, rsV (begR b 9 (S [x, v])), rsV (begR c 3 (N p.st.length))], S [x, v]]]) := by
  have ho := h.ok
  have hba := h.base
  have han := h.an
  have hcn := h.cn
  refine EE_rows (os := [a, b, c]) (xs := [S [x, v]]) T_do rfl (Nat.le_of_ble_eq_true rfl) (in3 ho.ha ho.hb ho.hc) rfl ?_
  intro ds σ k L hR hn hσ hL hk1 hk
  obtain ⟨da, db, dc, La, Lb, Lc, rfl, rfl, ra, rb, rc⟩ := rw3 hR
  rw [show opt 74 = [] from rfl]
  simp only [bodyOf, Tryd.f74, SA]
  have hkd : EE 57 [S [x, v]] = some (.v (.int .u8 91)) := by rw [l7Kind_ev, kind_beg hx hv]; rfl
  simp only [hkd, hσ, len_rw rc, IA, PA, RA0, RA1, RA2, RA3, RA4, RA5, RA6, RA7, RA8, RA9, RA10, Nat.reduceAdd, Nat.reduceMul, Nat.reduceEqDiff, Nat.reduceLeDiff, Nat.reduceLT, Int.reduceToNat, Int.reduceLT, Int.reduceLE, Int.reduceEq, Int.reduceNeg, Int.reduceAdd, Int.reduceSub, Int.reduceMul, reduceIte]
  rcases hba with ⟨hc0, hb0⟩ | ⟨hc0, pre, hcs, hpl⟩
  · have hlc : ¬ ((0 : Int) < (c.n : Int)) := by omega
    have hla : ¬ ((a.n : Int) ≤ 0) := by omega
    simp only [hlc, hla, hσ, len_rw ra, RR, IA, PA, RA0, RA1, RA2, RA3, RA4, RA5, RA6, RA7, RA8, RA9, RA10, Nat.reduceAdd, Nat.reduceMul, Nat.reduceEqDiff, Nat.reduceLeDiff, Nat.reduceLT, Int.reduceToNat, Int.reduceLT, Int.reduceLE, Int.reduceEq, Int.reduceNeg, Int.reduceAdd, Int.reduceSub, Int.reduceMul, reduceIte]
    have hlb := rb.lst (nx := k) fun r hr => (hL r (by simp [hr])).2
    rw [ho.bE, ho.bS] at hlb
    have hbn := ho.bn
    have hcn' := ho.cn
    have han' := ho.an
    rw [lst_app hlb (by decide) (by rfl) (by rfl) (by decide) (by omega) (by omega) (by omega)]
    generalize hτ : appSto _ _ _ _ db _ _ = τ
    have t1 := (congrFun hτ _).symm.trans (appSto_key ..)
    have t2 : ∀ i, i ≠ _ → i ∉ Lb → τ i = σ i := fun i h1 h2 => (congrFun hτ i).symm.trans (app_other rb h1 h2)
    clear hτ
    have hnd := List.nodup_cons.1 hn
    have hnd2 := List.nodup_append.1 hnd.2
    have hnd3 := List.nodup_append.1 hnd2.2.1
    have h0b : 0 ∉ Lb := fun hr => hnd.1 (by simp [hr])
    have hab : ∀ r ∈ La, r ∉ Lb := fun r hr hr2 => hnd2.2.2 r hr r (by simp [hr2]) rfl
    have hcb : ∀ r ∈ Lc, r ∉ Lb := fun r hr hr2 => hnd3.2.2 r hr2 r hr rfl
    have hac : ∀ r ∈ La, r ∉ Lc := fun r hr hr2 => hnd2.2.2 r hr r (by simp [hr2]) rfl
    have hLa : ∀ r ∈ La, 1 ≤ r ∧ r < k := fun r hr => hL r (by simp [hr])
    have hLc : ∀ r ∈ Lc, 1 ≤ r ∧ r < k := fun r hr => hL r (by simp [hr])
    have t3 : τ 0 = some (.ob 75 [da, db, dc]) := by rw [t2 0 (by omega) h0b, hσ]
    have rc2 : ∀ X, Rw (upd τ 0 X) c dc Lc := fun X => rc.frame fun r hr => by
      have := hLc r hr
      rw [upd, if_neg (by omega), t2 r (by omega) (hcb r hr)]
    have ra2 : ∀ X, Rw (upd τ 0 X) a da La := fun X => ra.frame fun r hr => by
      have := hLa r hr
      rw [upd, if_neg (by omega), t2 r (by omega) (hab r hr)]
    simp only [t1, t3, len_rw (rc2 _), len_rw (ra2 _), RR, IA, PA, RA0, RA1, RA2, RA3, RA4, RA5, RA6, RA7, RA8, RA9, RA10, Nat.reduceAdd, Nat.reduceMul, Nat.reduceEqDiff, Nat.reduceLeDiff, Nat.reduceLT, Int.reduceToNat, Int.reduceLT, Int.reduceLE, Int.reduceEq, Int.reduceNeg, Int.reduceAdd, Int.reduceSub, Int.reduceMul, reduceIte]
    have hlc2 := (rc2 (some (.ob 75 [da, .w (k + 4 + 8 + 8 + 8 + 8 + 8 + 4 + 24 + 28 + 28) 0 (b.n + 1), dc]))).lst (nx := k) fun r hr => (hLc r hr).2
    rw [ho.cE, ho.cS] at hlc2
    rw [lst_app hlc2 (by decide) (by rfl) (by rfl) (by decide) (by omega) (by omega) (by omega)]
    generalize hτ2 : appSto _ _ _ _ dc _ _ = τ2
    have u1 := (congrFun hτ2 _).symm.trans (appSto_key ..)
    have u2 : ∀ i, i ≠ _ → i ∉ Lc → τ2 i = _ := fun i h1 h2 => (congrFun hτ2 i).symm.trans (app_other (rc2 _) h1 h2)
    clear hτ2
    have h0c : 0 ∉ Lc := fun hr => hnd.1 (by simp [hr])
    have hkc : k + 4 + 8 + 8 + 8 + 8 + 8 + 4 + 24 + 28 + 28 ∉ Lc := fun hr => by have := hLc _ hr; omega
    have u3 : τ2 0 = some (.ob 75 [da, .w (k + 4 + 8 + 8 + 8 + 8 + 8 + 4 + 24 + 28 + 28) 0 (b.n + 1), dc]) := by rw [u2 0 (by omega) h0c, upd, if_pos rfl]
    have u4 := u2 (k + 4 + 8 + 8 + 8 + 8 + 8 + 4 + 24 + 28 + 28) (by omega) hkc
    rw [upd, if_neg (by omega), t1] at u4
    simp only [u1, u3, RR, IA, PA, RA0, RA1, RA2, RA3, RA4, RA5, RA6, RA7, RA8, RA9, RA10, Nat.reduceAdd, Nat.reduceMul, Nat.reduceEqDiff, Nat.reduceLeDiff, Nat.reduceLT, Int.reduceToNat, Int.reduceLT, Int.reduceLE, Int.reduceEq, Int.reduceNeg, Int.reduceAdd, Int.reduceSub, Int.reduceMul, reduceIte]
    refine out_rows_one (ds := [da, .w (k + 4 + 8 + 8 + 8 + 8 + 8 + 4 + 24 + 28 + 28) 0 (b.n + 1), .w (k + 4 + 8 + 8 + 8 + 8 + 8 + 4 + 24 + 28 + 44 + 44) 0 (c.n + 1)]) (ps := [rsV a, rsV (begR b 9 (S [x, v])), rsV (begR c 3 (N p.st.length))]) (L := La ++ ([k + 4 + 8 + 8 + 8 + 8 + 8 + 4 + 24 + 28 + 28] ++ [k + 4 + 8 + 8 + 8 + 8 + 8 + 4 + 24 + 28 + 44 + 44])) ?_ (by rfl) (by rfl) ?_ ?_ (by rfl)
    · simp only [IA, PA, RA0, RA1, RA2, RA3, RA4, RA5, RA6, RA7, RA8, RA9, RA10, Nat.reduceAdd, Nat.reduceMul, Nat.reduceEqDiff, Nat.reduceLeDiff, Nat.reduceLT, Int.reduceToNat, Int.reduceLT, Int.reduceLE, Int.reduceEq, Int.reduceNeg, Int.reduceAdd, Int.reduceSub, Int.reduceMul, reduceIte]
    · refine leaf3 (ra.frame fun r hr => ?_).leaf ?_ ?_
      · have := hLa r hr
        simp only [upd]
        rw [if_neg (by omega), u2 r (by omega) (hac r hr), upd, if_neg (by omega), t2 r (by omega) (hab r hr)]
      · rw [leafP_row (E := 9) (sz := 1) (n := b.n + 1) (cs := b.cs ++ [S [x, v]]) (by simp only [upd]; rw [if_neg (by omega)]; exact u4) (by rw [closedL_append, ho.hb.2.1]; rfl)]
        simp only [rsV, begR, if_true]
      · rw [leafP_row (E := 3) (sz := 1) (n := c.n + 1) (cs := c.cs ++ [N p.st.length]) (by simp only [upd]; rw [if_neg (by omega), u1, han]) (by rw [closedL_append, ho.hc.2.1]; rfl)]
        simp only [rsV, begR, if_true]
    · refine List.nodup_cons.2 ⟨?_, ?_⟩
      · simp only [List.mem_append, List.mem_cons, List.not_mem_nil, or_false, not_or]
        exact ⟨fun hr => by have := hLa _ hr; omega, by omega, by omega⟩
      · refine List.nodup_append.2 ⟨hnd2.1, ?_, ?_⟩
        · simp
        · intro r hr r2 hr2
          have := hLa r hr
          simp only [List.mem_append, List.mem_cons, List.not_mem_nil, or_false] at hr2
          omega
  · have hlc : ((0 : Int) < (c.n : Int)) := by omega
    obtain ⟨rr, hcb', rfl, rfl, hcσ⟩ := rc.pos hc0
    have hwc : IntKind.i64.wrap ((c.n : Int) - 1) = ((c.n - 1 : Nat) : Int) := by
      have := ho.cn
      rw [wrap64 (by omega) (by omega)]; omega
    have hz1 : (0 : Int) ≤ ((c.n - 1 : Nat) : Int) := by omega
    have hz2 : ((c.n - 1 : Nat) : Int) < (c.n : Int) := by omega
    have hhd : (c.cs.drop (c.n - 1)).head? = some (N (baseP p.lp)) := by
      rw [hcs, List.drop_append, List.drop_eq_nil_of_le (by omega), show c.n - 1 - pre.length = 0 by omega]
      rfl
    have hla : ¬ ((a.n : Int) ≤ (baseP p.lp : Int)) := by omega
    simp only [hlc, hcσ, hwc, hz1, hz2, hhd, hla, hσ, ho.cS, Int.toNat_natCast, Nat.mul_one, Nat.zero_add, len_rw ra, RR, IA, PA, RA0, RA1, RA2, RA3, RA4, RA5, RA6, RA7, RA8, RA9, RA10, Nat.reduceAdd, Nat.reduceMul, Nat.reduceEqDiff, Nat.reduceLeDiff, Nat.reduceLT, Int.reduceToNat, Int.reduceLT, Int.reduceLE, Int.reduceEq, Int.reduceNeg, Int.reduceAdd, Int.reduceSub, Int.reduceMul, reduceIte]
    have hlb := rb.lst (nx := k) fun r hr => (hL r (by simp [hr])).2
    rw [ho.bE, ho.bS] at hlb
    have hbn := ho.bn
    have hcn' := ho.cn
    have han' := ho.an
    rw [lst_app hlb (by decide) (by rfl) (by rfl) (by decide) (by omega) (by omega) (by omega)]
    generalize hτ : appSto _ _ _ _ db _ _ = τ
    have t1 := (congrFun hτ _).symm.trans (appSto_key ..)
    have t2 : ∀ i, i ≠ _ → i ∉ Lb → τ i = σ i := fun i h1 h2 => (congrFun hτ i).symm.trans (app_other rb h1 h2)
    clear hτ
    have hnd := List.nodup_cons.1 hn
    have hnd2 := List.nodup_append.1 hnd.2
    have hnd3 := List.nodup_append.1 hnd2.2.1
    have h0b : 0 ∉ Lb := fun hr => hnd.1 (by simp [hr])
    have hab : ∀ r ∈ La, r ∉ Lb := fun r hr hr2 => hnd2.2.2 r hr r (by simp [hr2]) rfl
    have hcb : ∀ r ∈ [rr], r ∉ Lb := fun r hr hr2 => hnd3.2.2 r hr2 r hr rfl
    have hac : ∀ r ∈ La, r ∉ [rr] := fun r hr hr2 => hnd2.2.2 r hr r (by simp [hr2]) rfl
    have hLa : ∀ r ∈ La, 1 ≤ r ∧ r < k := fun r hr => hL r (by simp [hr])
    have hLc : ∀ r ∈ [rr], 1 ≤ r ∧ r < k := fun r hr => hL r (by simp [hr])
    have t3 : τ 0 = some (.ob 75 [da, db, (.w rr 0 c.n)]) := by rw [t2 0 (by omega) h0b, hσ]
    have rc2 : ∀ X, Rw (upd τ 0 X) c (.w rr 0 c.n) [rr] := fun X => rc.frame fun r hr => by
      have := hLc r hr
      rw [upd, if_neg (by omega), t2 r (by omega) (hcb r hr)]
    have ra2 : ∀ X, Rw (upd τ 0 X) a da La := fun X => ra.frame fun r hr => by
      have := hLa r hr
      rw [upd, if_neg (by omega), t2 r (by omega) (hab r hr)]
    simp only [t1, t3, len_rw (rc2 _), len_rw (ra2 _), RR, IA, PA, RA0, RA1, RA2, RA3, RA4, RA5, RA6, RA7, RA8, RA9, RA10, Nat.reduceAdd, Nat.reduceMul, Nat.reduceEqDiff, Nat.reduceLeDiff, Nat.reduceLT, Int.reduceToNat, Int.reduceLT, Int.reduceLE, Int.reduceEq, Int.reduceNeg, Int.reduceAdd, Int.reduceSub, Int.reduceMul, reduceIte]
    have hlc2 := (rc2 (some (.ob 75 [da, .w (k + 4 + 8 + 8 + 8 + 8 + 8 + 4 + 24 + 52 + 28 + 28) 0 (b.n + 1), (.w rr 0 c.n)]))).lst (nx := k) fun r hr => (hLc r hr).2
    rw [ho.cE, ho.cS] at hlc2
    rw [lst_app hlc2 (by decide) (by rfl) (by rfl) (by decide) (by omega) (by omega) (by omega)]
    generalize hτ2 : appSto _ _ _ _ (.w rr 0 c.n) _ _ = τ2
    have u1 := (congrFun hτ2 _).symm.trans (appSto_key ..)
    have u2 : ∀ i, i ≠ _ → i ∉ [rr] → τ2 i = _ := fun i h1 h2 => (congrFun hτ2 i).symm.trans (app_other (rc2 _) h1 h2)
    clear hτ2
    have h0c : 0 ∉ [rr] := fun hr => hnd.1 (by simp [hr])
    have hkc : k + 4 + 8 + 8 + 8 + 8 + 8 + 4 + 24 + 52 + 28 + 28 ∉ [rr] := fun hr => by have := hLc _ hr; omega
    have u3 : τ2 0 = some (.ob 75 [da, .w (k + 4 + 8 + 8 + 8 + 8 + 8 + 4 + 24 + 52 + 28 + 28) 0 (b.n + 1), (.w rr 0 c.n)]) := by rw [u2 0 (by omega) h0c, upd, if_pos rfl]
    have u4 := u2 (k + 4 + 8 + 8 + 8 + 8 + 8 + 4 + 24 + 52 + 28 + 28) (by omega) hkc
    rw [upd, if_neg (by omega), t1] at u4
    simp only [u1, u3, RR, IA, PA, RA0, RA1, RA2, RA3, RA4, RA5, RA6, RA7, RA8, RA9, RA10, Nat.reduceAdd, Nat.reduceMul, Nat.reduceEqDiff, Nat.reduceLeDiff, Nat.reduceLT, Int.reduceToNat, Int.reduceLT, Int.reduceLE, Int.reduceEq, Int.reduceNeg, Int.reduceAdd, Int.reduceSub, Int.reduceMul, reduceIte]
    refine out_rows_one (ds := [da, .w (k + 4 + 8 + 8 + 8 + 8 + 8 + 4 + 24 + 52 + 28 + 28) 0 (b.n + 1), .w (k + 4 + 8 + 8 + 8 + 8 + 8 + 4 + 24 + 52 + 28 + 44 + 44) 0 (c.n + 1)]) (ps := [rsV a, rsV (begR b 9 (S [x, v])), rsV (begR c 3 (N p.st.length))]) (L := La ++ ([k + 4 + 8 + 8 + 8 + 8 + 8 + 4 + 24 + 52 + 28 + 28] ++ [k + 4 + 8 + 8 + 8 + 8 + 8 + 4 + 24 + 52 + 28 + 44 + 44])) ?_ (by rfl) (by rfl) ?_ ?_ (by rfl)
    · simp only [IA, PA, RA0, RA1, RA2, RA3, RA4, RA5, RA6, RA7, RA8, RA9, RA10, Nat.reduceAdd, Nat.reduceMul, Nat.reduceEqDiff, Nat.reduceLeDiff, Nat.reduceLT, Int.reduceToNat, Int.reduceLT, Int.reduceLE, Int.reduceEq, Int.reduceNeg, Int.reduceAdd, Int.reduceSub, Int.reduceMul, reduceIte]
    · refine leaf3 (ra.frame fun r hr => ?_).leaf ?_ ?_
      · have := hLa r hr
        simp only [upd]
        rw [if_neg (by omega), u2 r (by omega) (hac r hr), upd, if_neg (by omega), t2 r (by omega) (hab r hr)]
      · rw [leafP_row (E := 9) (sz := 1) (n := b.n + 1) (cs := b.cs ++ [S [x, v]]) (by simp only [upd]; rw [if_neg (by omega)]; exact u4) (by rw [closedL_append, ho.hb.2.1]; rfl)]
        simp only [rsV, begR, if_true]
      · rw [leafP_row (E := 3) (sz := 1) (n := c.n + 1) (cs := c.cs ++ [N p.st.length]) (by simp only [upd]; rw [if_neg (by omega), u1, han]) (by rw [closedL_append, ho.hc.2.1]; rfl)]
        simp only [rsV, begR, if_true]
    · refine List.nodup_cons.2 ⟨?_, ?_⟩
      · simp only [List.mem_append, List.mem_cons, List.not_mem_nil, or_false, not_or]
        exact ⟨fun hr => by have := hLa _ hr; omega, by omega, by omega⟩
      · refine List.nodup_append.2 ⟨hnd2.1, ?_, ?_⟩
        · simp
        · intro r hr r2 hr2
          have := hLa r hr
          simp only [List.mem_append, List.mem_cons, List.not_mem_nil, or_false] at hr2
          omega
end
end Go.Proofs.YtkmnidbodlmaaaaDoor.Ev
