/-
Texts Uf to Um of the work, in one.
-/
import Derived.Test.YtkilalabmbdmkaaDoorZ5
import Derived.Lib.Join
import Derived.Lib.IndexLaws
/-
Code: the reference's builder: a term is put onto the stack.
-/
namespace Go.Proofs.YtkilalabmbdmkaaDoor.Ev
section
set_option linter.unusedVariables false
set_option linter.unusedSimpArgs false
open Go Go.RowKit
set_option linter.unusedVariables false
set_option linter.unusedSimpArgs false
def pushR (a : RS) (cell : List AV) : RS := ⟨true, 33, 3, a.n + 1, a.cs ++ cell⟩
theorem push_ok (a b c : RS) (h : BOk a b c) (cell : List AV) (hcl : cell.length = 3) (hlf : cell.all leafOk = true) (hcc : closedL cell = true) :
    EE 99 [lent 84 [rsV a, rsV b, rsV c], .a cell] = some (.t [.t [], .t [lent 84 [rsV (pushR a cell), rsV b, rsV c], .a cell]]) := by
  refine EE_rows (os := [a, b, c]) (xs := [.a cell]) T_push rfl (Nat.le_of_ble_eq_true rfl) (by
    intro o ho
    simp only [List.mem_cons, List.not_mem_nil, or_false] at ho
    rcases ho with rfl | rfl | rfl
    · exact h.ha
    · exact h.hb
    · exact h.hc) (by simp only [List.all_cons, goes, closed, hcc, List.all_nil, Bool.and_self]) ?_
  intro ds σ k L hR hn hσ hL hk1 hk
  obtain ⟨da, db, dc, La, Lb, Lc, rfl, rfl, ra, rb, rc⟩ := rw3 hR
  rw [show opt 99 = [oLow 1, oHi 33] from rfl]
  simp only [bodyOf, Tryd.f99, SA]
  have hk0 : ¬ (0 = k) := by omega
  have h0k : 0 < k := by omega
  have hn' : ∀ r ∈ La ++ (Lb ++ Lc), r ≠ k := fun r hr => by have := (hL r hr).2; omega
  have ra' : ∀ X, Rw (upd σ k X) a da La := fun X => ra.frame fun r hr => upd_ne _ _ _ _ (hn' r (by simp [hr]))
  have hlt : ∀ r ∈ La, r < k + 4 := fun r hr => by have := (hL r (by simp [hr])).2; omega
  have hlst := (ra' (some (.ob 33 cell))).lst hlt
  rw [h.aE, h.aS] at hlst
  have hb4 : k < k + 4 := by omega
  have hb0 : 0 < k + 4 := by omega
  have hct : List.take 3 cell = cell := List.take_of_length_le (by omega)
  have han := h.an
  simp only [hσ, hk0, h0k, hcl, hlf, hb4, hb0, hct, len_rw (ra' _), RR, IA, PA, RA0, RA1, RA2, RA3, RA4, RA5, RA6, RA7, RA8, RA9, RA10, Nat.reduceAdd, Nat.reduceMul, Nat.reduceEqDiff, Nat.reduceLeDiff, Nat.reduceLT, Int.reduceToNat, Int.reduceLT, Int.reduceLE, Int.reduceEq, Int.reduceNeg, Int.reduceAdd, Int.reduceSub, Int.reduceMul, reduceIte]
  rw [lst_app hlst (by decide) (by rfl) (by rfl) (by decide) (by omega) (by omega) (by omega)]
  have h4n : ∀ id lo n, da = .w id lo n → id ≠ 0 ∧ id ≠ k ∧ id < k := by
    intro id lo n hda
    rcases ra with ⟨h0, ⟨hb, rfl, rfl⟩ | ⟨r, hb, rfl, rfl, hσr⟩⟩
    · cases hda
    · cases hda
      have := hL id (by simp)
      omega
  obtain ⟨τ, hτ⟩ : ∃ τ, τ = appSto (upd σ k (some (.ob 33 cell))) (k + 4 + 28) 33 3 da (a.n + 1) (a.cs ++ [ofC0 (.int .u8 0), ofC0 (.int .u8 0), ofC0 (.slice none 0 0)]) := ⟨_, rfl⟩
  have t1 : τ (k + 4 + 28) = some (.row 33 3 (a.n + 1) (a.cs ++ [ofC0 (.int .u8 0), ofC0 (.int .u8 0), ofC0 (.slice none 0 0)])) := by rw [hτ]; exact appSto_key ..
  have t2 : ∀ i, i ≠ k + 4 + 28 → (∀ id lo n, da = .w id lo n → i ≠ id) → τ i = upd σ k (some (.ob 33 cell)) i := by rw [hτ]; exact fun i h1 h2 => appSto_other h1 h2
  rw [← hτ]
  have t3 : τ 0 = some (.ob 84 [da, db, dc]) := by
    rw [t2 0 (by omega) (fun id lo n hda => (h4n id lo n hda).1.symm), upd, if_neg hk0, hσ]
  clear hτ
  simp only [t1, t3, hcl, hlf, hb4, hb0, hct, RR, IA, PA, RA0, RA1, RA2, RA3, RA4, RA5, RA6, RA7, RA8, RA9, RA10, Nat.reduceAdd, Nat.reduceMul, Nat.reduceEqDiff, Nat.reduceLeDiff, Nat.reduceLT, Int.reduceToNat, Int.reduceLT, Int.reduceLE, Int.reduceEq, Int.reduceNeg, Int.reduceAdd, Int.reduceSub, Int.reduceMul, reduceIte]
  have hla : a.cs.length = a.n * 3 := by have := h.ha.1; rw [h.aS] at this; exact this
  rw [if_pos (by omega), if_pos (by simp), if_pos (by simp only [List.length_append, List.length_cons, List.length_nil]; omega)]
  have hcells : List.take (a.n * 3) (a.cs ++ [ofC0 (.int .u8 0), ofC0 (.int .u8 0), ofC0 (.slice none 0 0)]) ++ cell ++ List.drop (a.n * 3 + 3) (a.cs ++ [ofC0 (.int .u8 0), ofC0 (.int .u8 0), ofC0 (.slice none 0 0)]) = a.cs ++ cell := by
    rw [← hla, List.take_append_of_le_length (Nat.le_refl _), List.take_length, List.drop_eq_nil_of_le (by simp), List.append_nil]
  rw [hcells]
  have hfr : ∀ r ∈ Lb ++ Lc, ¬ (r = 0) ∧ ¬ (r = k) ∧ ¬ (r = k + 4 + 28) ∧ (∀ id lo n, da = .w id lo n → r ≠ id) := fun r hr => by
    have h1 := hL r (List.mem_append_right _ hr)
    refine ⟨by omega, by omega, by omega, fun id lo n hda he => ?_⟩
    rcases ra with ⟨h0, ⟨hb, rfl, rfl⟩ | ⟨r', hb, rfl, rfl, hσr⟩⟩
    · cases hda
    · cases hda
      subst he
      have := (List.nodup_cons.1 hn).2
      simp only [List.singleton_append] at this
      exact (List.nodup_cons.1 this).1 hr
  have hfr2 : ∀ (X Y : Slot) r, r ∈ Lb ++ Lc → upd (upd τ (k + 4 + 28) (some X)) 0 (some Y) r = σ r := fun X Y r hr => by
    obtain ⟨q1, q2, q3, q4⟩ := hfr r hr
    simp only [upd, if_neg q1, if_neg q3]
    rw [t2 r q3 q4, upd, if_neg q2]
  have hkk : ¬ (k + 4 + 28 = 0) := by omega
  refine out_rows_none (ds := [.w (k + 4 + 28) 0 (a.n + 1), db, dc]) (ps := [rsV (pushR a cell), rsV b, rsV c]) (L := [k + 4 + 28] ++ (Lb ++ Lc)) (by intro i hi; cases hi) (by rfl) (by rfl) ?_ ?_ (by simp only [List.all_cons, goes, closed, hcc, List.all_nil, Bool.and_self])
  · refine leaf3 ?_ (rb.frame fun r hr => hfr2 _ _ r (List.mem_append_left _ hr)).leaf (rc.frame fun r hr => hfr2 _ _ r (List.mem_append_right _ hr)).leaf
    rw [leafP_row (E := 33) (sz := 3) (n := a.n + 1) (cs := a.cs ++ cell) (by simp only [upd, if_neg hkk, if_true]) (by rw [closedL_append, h.ha.2.1, hcc]; rfl)]
    simp only [rsV, pushR, if_true]
  · have h1 := List.nodup_cons.1 hn
    have h2 := (List.nodup_append.1 h1.2).2.1
    refine List.nodup_cons.2 ⟨?_, ?_⟩
    · simp only [List.singleton_append, List.mem_cons, not_or]
      exact ⟨by omega, fun hr => (hfr 0 hr).1 rfl⟩
    · simp only [List.singleton_append]
      exact List.nodup_cons.2 ⟨fun hr => (hfr _ hr).2.2.1 rfl, h2⟩
end
end Go.Proofs.YtkilalabmbdmkaaDoor.Ev

/-
Code: kinds of instructions.
-/
namespace Go.Proofs.YtkilalabmbdmkaaDoor.Ev
section
set_option linter.unusedVariables false
set_option linter.unusedSimpArgs false
open Go Go.RowKit
set_option linter.unusedVariables false
set_option linter.unusedSimpArgs false

/-- What an instruction is: begin of a loop. -/
def begM (l : List UInt8) : Bool := match l with
  | [a, _] => decide (a = 91) || decide (a = 123)
  | _ => false
def endM (l : List UInt8) : Bool := match l with
  | [a] => decide (a = 93) || decide (a = 125)
  | _ => false
def arM (l : List UInt8) : Int := match l with
  | [a] => if isOne a = true then 1 else if isTwo a = true then 2 else 0
  | _ => 0
theorem T_begins : TT 40 = some (Tryd.f40, bodyOf Tryd.f40) := by kernel_rfl
theorem begins_ev (l : List UInt8) : EE 40 [S l] = some (B (begM l)) := by
  refine EE_plain T_begins (by decide) (Nat.le_of_ble_eq_true rfl) rfl ?_
  rw [show opt 40 = [] from rfl]
  simp only [bodyOf, Tryd.f40, SA]
  rcases l with _ | ⟨a, _ | ⟨b, _ | ⟨d, l⟩⟩⟩
  · simp only [begM, IA, PA, RA0, RA1, RA2, RA3, RA4, RA5, RA6, RA7, RA8, RA9, RA10, Nat.reduceAdd, Nat.reduceMul, Nat.reduceEqDiff, Nat.reduceLeDiff, Nat.reduceLT, Int.reduceToNat, Int.reduceLT, Int.reduceLE, Int.reduceEq, Int.reduceNeg, Int.reduceAdd, Int.reduceSub, Int.reduceMul, reduceIte]
  · simp only [begM, IA, PA, RA0, RA1, RA2, RA3, RA4, RA5, RA6, RA7, RA8, RA9, RA10, Nat.reduceAdd, Nat.reduceMul, Nat.reduceEqDiff, Nat.reduceLeDiff, Nat.reduceLT, Int.reduceToNat, Int.reduceLT, Int.reduceLE, Int.reduceEq, Int.reduceNeg, Int.reduceAdd, Int.reduceSub, Int.reduceMul, reduceIte]
  · have e1 : decide ((a.toNat : Int) = 91) = decide (a = 91) := eq_nat a 91
    have e2 : decide ((a.toNat : Int) = 123) = decide (a = 123) := eq_nat a 123
    simp only [begM]
    generalize hx : decide (a = 91) = x
    generalize hy : decide (a = 123) = y
    cases x <;> simp only [e1, e2, hx, hy, IA, PA, RA0, RA1, RA2, RA3, RA4, RA5, RA6, RA7, RA8, RA9, RA10, Nat.reduceAdd, Nat.reduceMul, Nat.reduceEqDiff, Nat.reduceLeDiff, Nat.reduceLT, Int.reduceToNat, Int.reduceLT, Int.reduceLE, Int.reduceEq, Int.reduceNeg, Int.reduceAdd, Int.reduceSub, Int.reduceMul, reduceIte]
  · have : ¬ (((l.length + 1 + 1 + 1 : Nat) : Int) = 2) := by omega
    simp only [begM, this, IA, PA, RA0, RA1, RA2, RA3, RA4, RA5, RA6, RA7, RA8, RA9, RA10, Nat.reduceAdd, Nat.reduceMul, Nat.reduceEqDiff, Nat.reduceLeDiff, Nat.reduceLT, Int.reduceToNat, Int.reduceLT, Int.reduceLE, Int.reduceEq, Int.reduceNeg, Int.reduceAdd, Int.reduceSub, Int.reduceMul, reduceIte]
theorem T_isEnd : TT 41 = some (Tryd.f41, bodyOf Tryd.f41) := by kernel_rfl
theorem isEnd_ev (l : List UInt8) : EE 41 [S l] = some (B (endM l)) := by
  refine EE_plain T_isEnd (by decide) (Nat.le_of_ble_eq_true rfl) rfl ?_
  rw [show opt 41 = [] from rfl]
  simp only [bodyOf, Tryd.f41, SA]
  rcases l with _ | ⟨a, _ | ⟨b, l⟩⟩
  · simp only [endM, TMA, IA, PA, RA0, RA1, RA2, RA3, RA4, RA5, RA6, RA7, RA8, RA9, RA10, Nat.reduceAdd, Nat.reduceMul, Nat.reduceEqDiff, Nat.reduceLeDiff, Nat.reduceLT, Int.reduceToNat, Int.reduceLT, Int.reduceLE, Int.reduceEq, Int.reduceNeg, Int.reduceAdd, Int.reduceSub, Int.reduceMul, reduceIte]
  · simp only [endM]
    generalize hx : decide (a = 93) = x
    generalize hy : decide (a = 125) = y
    cases x <;> simp only [hx, hy, TMA, IA, PA, RA0, RA1, RA2, RA3, RA4, RA5, RA6, RA7, RA8, RA9, RA10, Nat.reduceAdd, Nat.reduceMul, Nat.reduceEqDiff, Nat.reduceLeDiff, Nat.reduceLT, Int.reduceToNat, Int.reduceLT, Int.reduceLE, Int.reduceEq, Int.reduceNeg, Int.reduceAdd, Int.reduceSub, Int.reduceMul, reduceIte]
  · simp only [endM, TMA, IA, PA, RA0, RA1, RA2, RA3, RA4, RA5, RA6, RA7, RA8, RA9, RA10, Nat.reduceAdd, Nat.reduceMul, Nat.reduceEqDiff, Nat.reduceLeDiff, Nat.reduceLT, Int.reduceToNat, Int.reduceLT, Int.reduceLE, Int.reduceEq, Int.reduceNeg, Int.reduceAdd, Int.reduceSub, Int.reduceMul, reduceIte]
theorem contains_nil (l : List UInt8) : True := trivial
theorem T_arity : TT 42 = some (Tryd.f42, bodyOf Tryd.f42) := by kernel_rfl
/-- Of an instruction of one byte. -/
theorem arity_ev (a : UInt8) : EE 42 [S [a]] = some (N (arM [a])) := by
  refine EE_plain T_arity (by decide) (Nat.le_of_ble_eq_true rfl) rfl ?_
  rw [show opt 42 = [] from rfl]
  simp only [bodyOf, Tryd.f42, SA]
  have h1 : [83, 77, 73, 78, 82, 67, 80].contains a = isOne a := rfl
  have h2 : [43, 42, 94, 45, 61, 60, 64].contains a = isTwo a := rfl
  simp only [arM]
  cases hx : isOne a <;> cases hy : isTwo a <;> simp only [contains_ev, h1, h2, hx, hy, TMA, IA, PA, RA0, RA1, RA2, RA3, RA4, RA5, RA6, RA7, RA8, RA9, RA10, Nat.reduceAdd, Nat.reduceMul, Nat.reduceEqDiff, Nat.reduceLeDiff, Nat.reduceLT, Int.reduceToNat, Int.reduceLT, Int.reduceLE, Int.reduceEq, Int.reduceNeg, Int.reduceAdd, Int.reduceSub, Int.reduceMul, reduceIte]

/-- The reference's kind of an instruction. -/
def kindM (l : List UInt8) : UInt8 := match l with
  | [a, b] => if (decide (a = 91) || decide (a = 123)) && isLV b then 91 else 0
  | [a] => if isDig a || isVar a then 97 else if isOne a then 83 else if isTwo a then 43 else if decide (a = 93) || decide (a = 125) then 93 else 0
  | _ => 0
theorem T_l7Kind : TT 98 = some (Tryd.f98, bodyOf Tryd.f98) := by kernel_rfl
set_option maxHeartbeats 4000000 in
theorem l7Kind_ev (l : List UInt8) : EE 98 [S l] = some (U (kindM l)) := by
  refine EE_plain T_l7Kind (by decide) (Nat.le_of_ble_eq_true rfl) rfl ?_
  rw [show opt 98 = [] from rfl]
  simp only [bodyOf, Tryd.f98, SA]
  rcases l with _ | ⟨a, _ | ⟨b, _ | ⟨d, l⟩⟩⟩
  · simp only [kindM, IA, PA, RA0, RA1, RA2, RA3, RA4, RA5, RA6, RA7, RA8, RA9, RA10, Nat.reduceAdd, Nat.reduceMul, Nat.reduceEqDiff, Nat.reduceLeDiff, Nat.reduceLT, Int.reduceToNat, Int.reduceLT, Int.reduceLE, Int.reduceEq, Int.reduceNeg, Int.reduceAdd, Int.reduceSub, Int.reduceMul, reduceIte]
    rfl
  · have e97 : decide ((a.toNat : Int) = 97) = decide (a = 97) := eq_nat a 97
    have e98 : decide ((a.toNat : Int) = 98) = decide (a = 98) := eq_nat a 98
    have e93 : decide ((a.toNat : Int) = 93) = decide (a = 93) := eq_nat a 93
    have e125 : decide ((a.toNat : Int) = 125) = decide (a = 125) := eq_nat a 125
    simp only [kindM, isVar_cases]
    simp only [l1In_ev, in_dig, in_lv, wrap_u8, e97, e98, IA, PA, RA0, RA1, RA2, RA3, RA4, RA5, RA6, RA7, RA8, RA9, RA10, Nat.reduceAdd, Nat.reduceMul, Nat.reduceEqDiff, Nat.reduceLeDiff, Nat.reduceLT, Int.reduceToNat, Int.reduceLT, Int.reduceLE, Int.reduceEq, Int.reduceNeg, Int.reduceAdd, Int.reduceSub, Int.reduceMul, reduceIte]
    generalize hd : isDig a = d
    generalize hx : decide (a = 97) = x
    generalize hy : decide (a = 98) = y
    generalize hz : isLV a = z
    have hone : [83, 77, 73, 78, 82, 67, 80].contains a = isOne a := rfl
    have htwo : [43, 42, 94, 45, 61, 60, 64].contains a = isTwo a := rfl
    generalize h1 : isOne a = o1 at hone
    generalize h2 : isTwo a = o2 at htwo
    generalize h3 : decide (a = 93) = o3 at e93
    generalize h4 : decide (a = 125) = o4 at e125
    cases d
    case true =>
      simp only [l1In_ev, in_dig, in_lv, wrap_u8, e97, e98, hd, hx, hy, hz, IA, PA, RA0, RA1, RA2, RA3, RA4, RA5, RA6, RA7, RA8, RA9, RA10, Nat.reduceAdd, Nat.reduceMul, Nat.reduceEqDiff, Nat.reduceLeDiff, Nat.reduceLT, Int.reduceToNat, Int.reduceLT, Int.reduceLE, Int.reduceEq, Int.reduceNeg, Int.reduceAdd, Int.reduceSub, Int.reduceMul, reduceIte]
      rfl
    cases x
    case true =>
      simp only [l1In_ev, in_dig, in_lv, wrap_u8, e97, e98, hd, hx, hy, hz, IA, PA, RA0, RA1, RA2, RA3, RA4, RA5, RA6, RA7, RA8, RA9, RA10, Nat.reduceAdd, Nat.reduceMul, Nat.reduceEqDiff, Nat.reduceLeDiff, Nat.reduceLT, Int.reduceToNat, Int.reduceLT, Int.reduceLE, Int.reduceEq, Int.reduceNeg, Int.reduceAdd, Int.reduceSub, Int.reduceMul, reduceIte]
      rfl
    cases y
    case true =>
      simp only [l1In_ev, in_dig, in_lv, wrap_u8, e97, e98, hd, hx, hy, hz, IA, PA, RA0, RA1, RA2, RA3, RA4, RA5, RA6, RA7, RA8, RA9, RA10, Nat.reduceAdd, Nat.reduceMul, Nat.reduceEqDiff, Nat.reduceLeDiff, Nat.reduceLT, Int.reduceToNat, Int.reduceLT, Int.reduceLE, Int.reduceEq, Int.reduceNeg, Int.reduceAdd, Int.reduceSub, Int.reduceMul, reduceIte]
      rfl
    cases z
    case true =>
      simp only [l1In_ev, in_dig, in_lv, wrap_u8, e97, e98, hd, hx, hy, hz, IA, PA, RA0, RA1, RA2, RA3, RA4, RA5, RA6, RA7, RA8, RA9, RA10, Nat.reduceAdd, Nat.reduceMul, Nat.reduceEqDiff, Nat.reduceLeDiff, Nat.reduceLT, Int.reduceToNat, Int.reduceLT, Int.reduceLE, Int.reduceEq, Int.reduceNeg, Int.reduceAdd, Int.reduceSub, Int.reduceMul, reduceIte]
      rfl
    simp only [l1In_ev, in_dig, in_lv, wrap_u8, e97, e98, hd, hx, hy, hz, IA, PA, RA0, RA1, RA2, RA3, RA4, RA5, RA6, RA7, RA8, RA9, RA10, Nat.reduceAdd, Nat.reduceMul, Nat.reduceEqDiff, Nat.reduceLeDiff, Nat.reduceLT, Int.reduceToNat, Int.reduceLT, Int.reduceLE, Int.reduceEq, Int.reduceNeg, Int.reduceAdd, Int.reduceSub, Int.reduceMul, reduceIte]
    rw [l13Find_ev _ a (by decide)]
    cases o1
    · simp only [findFrom_has, hone, IA, PA, RA0, RA1, RA2, RA3, RA4, RA5, RA6, RA7, RA8, RA9, RA10, Nat.reduceAdd, Nat.reduceMul, Nat.reduceEqDiff, Nat.reduceLeDiff, Nat.reduceLT, Int.reduceToNat, Int.reduceLT, Int.reduceLE, Int.reduceEq, Int.reduceNeg, Int.reduceAdd, Int.reduceSub, Int.reduceMul, reduceIte]
      rw [l13Find_ev _ a (by decide)]
      cases o2
      · cases o3
        · cases o4 <;> simp only [findFrom_has, htwo, e93, e125, h3, h4, IA, PA, RA0, RA1, RA2, RA3, RA4, RA5, RA6, RA7, RA8, RA9, RA10, Nat.reduceAdd, Nat.reduceMul, Nat.reduceEqDiff, Nat.reduceLeDiff, Nat.reduceLT, Int.reduceToNat, Int.reduceLT, Int.reduceLE, Int.reduceEq, Int.reduceNeg, Int.reduceAdd, Int.reduceSub, Int.reduceMul, reduceIte] <;> rfl
        · simp only [findFrom_has, htwo, e93, e125, h3, h4, IA, PA, RA0, RA1, RA2, RA3, RA4, RA5, RA6, RA7, RA8, RA9, RA10, Nat.reduceAdd, Nat.reduceMul, Nat.reduceEqDiff, Nat.reduceLeDiff, Nat.reduceLT, Int.reduceToNat, Int.reduceLT, Int.reduceLE, Int.reduceEq, Int.reduceNeg, Int.reduceAdd, Int.reduceSub, Int.reduceMul, reduceIte]
          rfl
      · simp only [findFrom_has, htwo, IA, PA, RA0, RA1, RA2, RA3, RA4, RA5, RA6, RA7, RA8, RA9, RA10, Nat.reduceAdd, Nat.reduceMul, Nat.reduceEqDiff, Nat.reduceLeDiff, Nat.reduceLT, Int.reduceToNat, Int.reduceLT, Int.reduceLE, Int.reduceEq, Int.reduceNeg, Int.reduceAdd, Int.reduceSub, Int.reduceMul, reduceIte]
        rfl
    · simp only [findFrom_has, hone, IA, PA, RA0, RA1, RA2, RA3, RA4, RA5, RA6, RA7, RA8, RA9, RA10, Nat.reduceAdd, Nat.reduceMul, Nat.reduceEqDiff, Nat.reduceLeDiff, Nat.reduceLT, Int.reduceToNat, Int.reduceLT, Int.reduceLE, Int.reduceEq, Int.reduceNeg, Int.reduceAdd, Int.reduceSub, Int.reduceMul, reduceIte]
      rfl
  · have e1 : decide ((a.toNat : Int) = 91) = decide (a = 91) := eq_nat a 91
    have e2 : decide ((a.toNat : Int) = 123) = decide (a = 123) := eq_nat a 123
    simp only [kindM]
    generalize hx : decide (a = 91) = x
    generalize hy : decide (a = 123) = y
    generalize hz : isLV b = z
    cases x <;> cases y <;> cases z <;> simp only [l1In_ev, in_lv, wrap_u8, e1, e2, hx, hy, hz, IA, PA, RA0, RA1, RA2, RA3, RA4, RA5, RA6, RA7, RA8, RA9, RA10, Nat.reduceAdd, Nat.reduceMul, Nat.reduceEqDiff, Nat.reduceLeDiff, Nat.reduceLT, Int.reduceToNat, Int.reduceLT, Int.reduceLE, Int.reduceEq, Int.reduceNeg, Int.reduceAdd, Int.reduceSub, Int.reduceMul, reduceIte] <;> rfl
  · have h1 : ¬ (((l.length + 1 + 1 + 1 : Nat) : Int) = 2) := by omega
    have h2 : ¬ (((l.length + 1 + 1 + 1 : Nat) : Int) = 1) := by omega
    simp only [kindM, h1, h2, IA, PA, RA0, RA1, RA2, RA3, RA4, RA5, RA6, RA7, RA8, RA9, RA10, Nat.reduceAdd, Nat.reduceMul, Nat.reduceEqDiff, Nat.reduceLeDiff, Nat.reduceLT, Int.reduceToNat, Int.reduceLT, Int.reduceLE, Int.reduceEq, Int.reduceNeg, Int.reduceAdd, Int.reduceSub, Int.reduceMul, reduceIte]
    rfl
end
end Go.Proofs.YtkilalabmbdmkaaDoor.Ev

/-
The instructions of a term in the reference; the law of FlatSteps.
-/
namespace Go.Proofs.YtkilalabmbdmkaaDoor.Ev
section
set_option linter.unusedVariables false
set_option linter.unusedSimpArgs false
open Go Go.RowKit
set_option linter.unusedVariables false
set_option linter.unusedSimpArgs false

def leafT : T → Bool
  | .dig _ => true
  | .var _ => true
  | _ => false
/-- The reference's list: a leaf's lies in a slice made at once. -/
def resL (t : T) : AV := if leafT t = true then .s true (listT t).length (strs (listT t)) else .o 9 1 (listT t).length (strs (listT t))
theorem leaf_len {t : T} (h : leafT t = true) : ∃ c, listT t = [[c]] := by cases t <;> simp_all [leafT, listT]
theorem resL_leaf {t : T} (h : leafT t = true) : resL t = .s true (listT t).length (strs (listT t)) := if_pos h
theorem resL_node {t : T} (h : leafT t = false) : resL t = .o 9 1 (listT t).length (strs (listT t)) := if_neg (by simp [h])

end
end Go.Proofs.YtkilalabmbdmkaaDoor.Ev

/-
Code: texts of lists, the code of a term.
-/
namespace Go.Proofs.YtkilalabmbdmkaaDoor.Ev
section
set_option linter.unusedVariables false
set_option linter.unusedSimpArgs false
open Go Go.RowKit
set_option linter.unusedVariables false
set_option linter.unusedSimpArgs false

/-- The text of instructions. -/
def joinS (l : List (List UInt8)) : List UInt8 := Lib.join l [32]
/-- As the reference's loop makes it: what is there, the place. -/
def joinFrom (acc : List UInt8) (i : Nat) : List (List UInt8) → List UInt8
  | [] => acc
  | x :: l => joinFrom ((if 0 < i then acc ++ [32] else acc) ++ x) (i + 1) l
theorem joinFrom_len : ∀ (l : List (List UInt8)) (acc : List UInt8) (i : Nat), acc.length ≤ (joinFrom acc i l).length
  | [], acc, i => Nat.le_refl _
  | x :: l, acc, i => by
    have := joinFrom_len l ((if 0 < i then acc ++ [32] else acc) ++ x) (i + 1)
    simp only [joinFrom]
    refine Nat.le_trans ?_ this
    split <;> simp
theorem joinFrom_tail : ∀ (l : List (List UInt8)) (acc : List UInt8) (i : Nat), 0 < i → joinFrom acc i l = acc ++ Lib.joinTail [32] l
  | [], acc, i, _ => by simp [joinFrom, Lib.joinTail]
  | x :: l, acc, i, h => by
    rw [joinFrom, joinFrom_tail l _ _ (Nat.succ_pos i), if_pos h]
    simp [Lib.joinTail]
theorem joinFrom_join (l : List (List UInt8)) : joinFrom [] 0 l = joinS l := by
  cases l with
  | nil => rfl
  | cons x l =>
    rw [joinFrom, joinFrom_tail l _ _ (Nat.succ_pos 0), if_neg (by omega), joinS, Lib.join_cons]
    rfl

theorem strs_drop_head {L : List (List UInt8)} {i : Nat} {x : List UInt8} {r : List (List UInt8)} (h : L.drop i = x :: r) : i < L.length ∧ L[i]? = some x ∧ L.drop (i + 1) = r := by
  have h1 : i < L.length := by
    rcases Nat.lt_or_ge i L.length with h2 | h2
    · exact h2
    · rw [List.drop_eq_nil_of_le h2] at h; cases h
  refine ⟨h1, ?_, ?_⟩
  · have : (L.drop i)[0]? = some x := by rw [h]; rfl
    simpa using this
  · have : (L.drop i).drop 1 = r := by rw [h]; rfl
    simpa [List.drop_drop] using this
end
end Go.Proofs.YtkilalabmbdmkaaDoor.Ev

/-
Code: a text cut at a byte; both cuts are the same.
-/
namespace Go.Proofs.YtkilalabmbdmkaaDoor.Ev
section
set_option linter.unusedVariables false
set_option linter.unusedSimpArgs false
open Go Go.RowKit
set_option linter.unusedVariables false
set_option linter.unusedSimpArgs false

/-- The pieces of a text between the bytes c, cur being at hand. -/
def cutF (c : UInt8) : List UInt8 → List UInt8 → List (List UInt8)
  | cur, [] => [cur]
  | cur, x :: l => if x = c then cur :: cutF c [] l else cutF c (cur ++ [x]) l
def cutL (c : UInt8) (l : List UInt8) : List (List UInt8) := cutF c [] l
theorem cutF_len (c : UInt8) : ∀ (l cur : List UInt8), (cutF c cur l).length = l.count c + 1
  | [], cur => rfl
  | x :: l, cur => by
    rw [cutF]
    by_cases h : x = c
    · subst h
      simp [cutF_len]
    · rw [if_neg h, cutF_len c l, List.count_cons_of_ne h]
theorem T_l13Cut : TT 63 = some (Tryd.f63, bodyOf Tryd.f63) := by kernel_rfl
theorem l13Cut_loop (s : List UInt8) (c : UInt8) (hs : s.length < 1000000000) : ∀ (r : List UInt8) (i from_ n : Nat) (done : List (List UInt8)) (e : Nat → AV) (σ : Sto) (nx : Nat) (q : Option (Ex × St)),
    s.drop i = r → i ≤ s.length → from_ ≤ i → r.length + 1 < n → done.length ≤ i → roundsE (evC II EE (withOpt [] pf) MX (bodyL Tryd.f63 0)) n ⟨e, σ, nx⟩ = q →
    e 0 = S s → e 1 = U c → Lst σ nx 9 1 (e 5) done.length (strs done) → e 6 = N from_ → e 7 = N i →
    ∃ e' σ' nx', q = some (.exit 0, ⟨e', σ', nx'⟩) ∧ Lst σ' nx' 9 1 (e' 5) (done ++ cutF c ((s.take i).drop from_) r).length (strs (done ++ cutF c ((s.take i).drop from_) r)) := by
  intro r
  induction r with
  | nil =>
    intro i from_ n done e σ nx q hd hi hf hn hdl hq h0 h1 h5 h6 h7
    have hlen : i = s.length := by
      have : s.length ≤ i := by simpa using hd
      omega
    subst hlen
    obtain ⟨k, rfl⟩ : ∃ k, n = k + 2 := ⟨n - 2, by simp only [List.length_nil] at hn; omega⟩
    rw [rounds_rd] at hq
    have hc : ((s.length : Int) ≤ (s.length : Int)) := Int.le_refl _
    have hf1 : (0 : Int) ≤ (from_ : Int) := by omega
    have hf2 : (from_ : Int) ≤ (s.length : Int) := by omega
    have hw : IntKind.i64.wrap ((s.length : Int) + 1) = ((s.length + 1 : Nat) : Int) := by rw [wrap64 (by omega) (by omega)]; rfl
    have hc' : ¬ (((s.length + 1 : Nat) : Int) ≤ (s.length : Int)) := by omega
    simp only [bodyL, bodyOf, Tryd.f63, SA, loops, List.nil_append, List.append_nil, List.cons_append, List.getD_cons_zero, List.getD_cons_succ] at hq
    simp only [h0, h1, h6, h7, hc, hw, hf1, hf2, Int.toNat_natCast, RR, IA, PA, RA0, RA1, RA2, RA3, RA4, RA5, RA6, RA7, RA8, RA9, RA10, Nat.reduceAdd, Nat.reduceMul, Nat.reduceEqDiff, Nat.reduceLeDiff, Nat.reduceLT, Int.reduceToNat, Int.reduceLT, Int.reduceLE, Int.reduceEq, Int.reduceNeg, Int.reduceAdd, Int.reduceSub, Int.reduceMul, reduceIte] at hq
    rw [lst_app h5 (by decide) (by rfl) (by simp only [List.all_cons, List.all_nil, leafOk_str, Bool.and_self]) (by decide) (by omega) (by omega) (by omega)] at hq
    simp only [h7, hw, IA, PA, RA0, RA1, RA2, RA3, RA4, RA5, RA6, RA7, RA8, RA9, RA10, Nat.reduceAdd, Nat.reduceMul, Nat.reduceEqDiff, Nat.reduceLeDiff, Nat.reduceLT, Int.reduceToNat, Int.reduceLT, Int.reduceLE, Int.reduceEq, Int.reduceNeg, Int.reduceAdd, Int.reduceSub, Int.reduceMul, reduceIte] at hq
    rw [rounds_rd] at hq
    simp only [h0, hc', Int.toNat_natCast, RR, IA, PA, RA0, RA1, RA2, RA3, RA4, RA5, RA6, RA7, RA8, RA9, RA10, Nat.reduceAdd, Nat.reduceMul, Nat.reduceEqDiff, Nat.reduceLeDiff, Nat.reduceLT, Int.reduceToNat, Int.reduceLT, Int.reduceLE, Int.reduceEq, Int.reduceNeg, Int.reduceAdd, Int.reduceSub, Int.reduceMul, reduceIte] at hq
    refine ⟨_, _, _, hq.symm, ?_⟩
    simp only [cutF, List.length_append, List.length_cons, List.length_nil, ← strs_append]
    exact lst_key (by simp [strs_len]) (by omega)
  | cons x r ih =>
    intro i from_ n done e σ nx q hd hi hf hn hdl hq h0 h1 h5 h6 h7
    have hil : i < s.length := by
      rcases Nat.lt_or_ge i s.length with h | h
      · exact h
      · rw [List.drop_eq_nil_of_le h] at hd; cases hd
    have hx : s[i]? = some x := by
      have : (s.drop i)[0]? = some x := by rw [hd]; rfl
      simpa using this
    have hd' : s.drop (i + 1) = r := by
      have : (s.drop i).drop 1 = r := by rw [hd]; rfl
      simpa [List.drop_drop] using this
    have htk : (s.take (i + 1)).drop from_ = (s.take i).drop from_ ++ [x] := by
      rw [List.take_add_one, hx, List.drop_append_of_le_length (by simp; omega)]
      rfl
    have htk' : (s.take (i + 1)).drop (i + 1) = [] := by simp
    obtain ⟨k, rfl⟩ : ∃ k, n = k + 1 := ⟨n - 1, by omega⟩
    rw [rounds_rd] at hq
    have hc : ((i : Int) ≤ (s.length : Int)) := by omega
    have hne : ¬ ((i : Int) = (s.length : Int)) := by omega
    have hlt : ((i : Int) < (s.length : Int)) := by omega
    have hz : (0 : Int) ≤ (i : Int) := by omega
    have hf1 : (0 : Int) ≤ (from_ : Int) := by omega
    have hf2 : (from_ : Int) ≤ (i : Int) := by omega
    have hw : IntKind.i64.wrap ((i : Int) + 1) = ((i + 1 : Nat) : Int) := by rw [wrap64 (by omega) (by omega)]; rfl
    simp only [bodyL, bodyOf, Tryd.f63, SA, loops, List.nil_append, List.append_nil, List.cons_append, List.getD_cons_zero, List.getD_cons_succ] at hq
    simp only [h0, h1, h6, h7, hc, hne, hlt, hz, hx, hw, hf1, hf2, Int.toNat_natCast, RR, IA, PA, RA0, RA1, RA2, RA3, RA4, RA5, RA6, RA7, RA8, RA9, RA10, Nat.reduceAdd, Nat.reduceMul, Nat.reduceEqDiff, Nat.reduceLeDiff, Nat.reduceLT, Int.reduceToNat, Int.reduceLT, Int.reduceLE, Int.reduceEq, Int.reduceNeg, Int.reduceAdd, Int.reduceSub, Int.reduceMul, reduceIte] at hq
    by_cases hxc : x = c
    · subst hxc
      simp only [decide_true, if_true] at hq
      rw [lst_app h5 (by decide) (by rfl) (by simp only [List.all_cons, List.all_nil, leafOk_str, Bool.and_self]) (by decide) (by omega) (by omega) (by omega)] at hq
      simp only [h7, hw, IA, PA, RA0, RA1, RA2, RA3, RA4, RA5, RA6, RA7, RA8, RA9, RA10, Nat.reduceAdd, Nat.reduceMul, Nat.reduceEqDiff, Nat.reduceLeDiff, Nat.reduceLT, Int.reduceToNat, Int.reduceLT, Int.reduceLE, Int.reduceEq, Int.reduceNeg, Int.reduceAdd, Int.reduceSub, Int.reduceMul, reduceIte] at hq
      have h5' : Lst (appSto σ (nx + 16 + 44 + 24) 9 1 (e 5) (done.length + 1) (strs done ++ [S ((s.take i).drop from_)])) (nx + 16 + 44 + 32) 9 1 (.w (nx + 16 + 44 + 24) 0 (done.length + 1)) (done ++ [(s.take i).drop from_]).length (strs (done ++ [(s.take i).drop from_])) := by
        rw [← strs_append]
        exact (show (done ++ [(s.take i).drop from_]).length = done.length + 1 by simp) ▸ lst_key (by simp [strs_len]) (by omega)
      have := ih (i + 1) (i + 1) k (done ++ [(s.take i).drop from_]) _ _ _ q hd' (by omega) (Nat.le_refl _) (by simpa using hn) (by simpa using hdl) hq h0 h1 (lst_mono h5' (by omega)) rfl rfl
      rw [htk'] at this
      simpa [cutF] using this
    · have hn' : ¬ ((x.toNat : Int) = (c.toNat : Int)) := fun h => hxc (UInt8.toNat_inj.mp (by omega))
      simp only [decide_eq_true_eq] at hq
      rw [if_neg hn'] at hq
      have := ih (i + 1) from_ k done _ _ _ q hd' (by omega) (by omega) (by simpa using hn) (by omega) hq h0 h1 (lst_mono h5 (by omega)) h6 rfl
      rw [htk] at this
      simpa [cutF, hxc] using this
theorem l13Cut_ev (s : List UInt8) (c : UInt8) (hs : s.length < 1000000000) : EE 63 [S s, U c] = some (.o 9 1 (cutL c s).length (strs (cutL c s))) := by
  refine EE_plain T_l13Cut (by decide) (Nat.le_of_ble_eq_true rfl) (by rfl) ?_
  rw [show opt 63 = [] from rfl]
  simp only [bodyOf, Tryd.f63, SA]
  simp only [IA, PA, RA0, RA1, RA2, RA3, RA4, RA5, RA6, RA7, RA8, RA9, RA10, Nat.reduceAdd, Nat.reduceMul, Nat.reduceEqDiff, Nat.reduceLeDiff, Nat.reduceLT, Int.reduceToNat, Int.reduceLT, Int.reduceLE, Int.reduceEq, Int.reduceNeg, Int.reduceAdd, Int.reduceSub, Int.reduceMul, reduceIte]
  generalize hq : roundsE _ _ _ = q
  obtain ⟨e', σ', nx', rfl, h5⟩ := l13Cut_loop s c hs s 0 0 MX [] _ _ _ q rfl (Nat.zero_le _) (Nat.le_refl _) (lt_MX (by omega)) (Nat.le_refl _) hq rfl rfl (lst_nil _ _ _ _) rfl rfl
  simp only [List.nil_append, List.drop_nil, List.take_zero] at h5
  simp only [IA, PA, RA0, RA1, RA2, RA3, RA4, RA5, RA6, RA7, RA8, RA9, RA10, Nat.reduceAdd, Nat.reduceMul, Nat.reduceEqDiff, Nat.reduceLeDiff, Nat.reduceLT, Int.reduceToNat, Int.reduceLT, Int.reduceLE, Int.reduceEq, Int.reduceNeg, Int.reduceAdd, Int.reduceSub, Int.reduceMul, reduceIte]
  have hp : (cutL c s).length ≠ 0 := by rw [cutL, cutF_len]; omega
  rw [give_lst h5 (strs_closed _)]
  exact congrArg some (lstR_pos h5 hp)
end
end Go.Proofs.YtkilalabmbdmkaaDoor.Ev

/-
Code: strings.Split with one byte is the reference's cut.
-/
namespace Go.Proofs.YtkilalabmbdmkaaDoor.Ev
section
set_option linter.unusedVariables false
set_option linter.unusedSimpArgs false
open Go Go.RowKit
set_option linter.unusedVariables false
set_option linter.unusedSimpArgs false

theorem cutF_cur (c : UInt8) : ∀ (l cur : List UInt8) (a : List UInt8) (t : List (List UInt8)), cutF c [] l = a :: t → cutF c cur l = (cur ++ a) :: t
  | [], cur, a, t, h => by
    simp only [cutF, List.cons.injEq] at h ⊢
    obtain ⟨rfl, rfl⟩ := h
    simp
  | x :: l, cur, a, t, h => by
    simp only [cutF] at h ⊢
    by_cases hx : x = c
    · rw [if_pos hx, List.cons.injEq] at h
      rw [if_pos hx]
      obtain ⟨rfl, rfl⟩ := h
      simp
    · rw [if_neg hx] at h ⊢
      obtain ⟨b, u, hb⟩ : ∃ b u, cutF c [] l = b :: u := by
        have := cutF_len c l []
        cases h2 : cutF c [] l with
        | nil => rw [h2] at this; simp at this
        | cons b u => exact ⟨b, u, rfl⟩
      rw [cutF_cur c l _ b u hb, List.nil_append] at h
      rw [cutF_cur c l _ b u hb]
      obtain ⟨rfl, rfl⟩ := List.cons.inj h
      simp
theorem cutL_cons (c : UInt8) (l : List UInt8) : ∃ a t, cutL c l = a :: t := by
  have := cutF_len c l []
  cases h2 : cutF c [] l with
  | nil => rw [h2] at this; simp at this
  | cons b u => exact ⟨b, u, h2⟩
theorem cutL_none (c : UInt8) : ∀ (l : List UInt8), Lib.indexByte l c = -1 → cutL c l = [l] ∧ l.count c = 0
  | [], _ => ⟨rfl, rfl⟩
  | x :: l, h => by
    unfold Lib.indexByte at h
    by_cases hx : x = c
    · subst hx
      simp at h
    · have hb : ¬ ((x == c) = true) := by simpa using hx
      rw [if_neg hb] at h
      have h' : Lib.indexByte l c = -1 := by
        split at h
        · rename_i h2; simpa using h2
        · have := Lib.indexByte_ge l c; omega
      obtain ⟨h1, h2⟩ := cutL_none c l h'
      refine ⟨?_, by rw [List.count_cons_of_ne hx, h2]⟩
      rw [cutL, cutF, if_neg hx, cutF_cur c l _ l [] h1]
      rfl
theorem cutL_some (c : UInt8) : ∀ (l : List UInt8) (o : Nat), Lib.indexByte l c = (o : Int) → o < l.length ∧ cutL c l = l.take o :: cutL c (l.drop (o + 1)) ∧ l.count c = (l.drop (o + 1)).count c + 1
  | [], o, h => by simp only [Lib.indexByte] at h; omega
  | x :: l, o, h => by
    unfold Lib.indexByte at h
    by_cases hx : x = c
    · subst hx
      simp only [beq_self_eq_true, if_true] at h
      obtain rfl : o = 0 := by omega
      refine ⟨by simp, ?_, by simp⟩
      rw [cutL, cutF, if_pos rfl]
      rfl
    · have hb : ¬ ((x == c) = true) := by simpa using hx
      rw [if_neg hb] at h
      split at h
      · omega
      · obtain ⟨p, rfl⟩ : ∃ p, o = p + 1 := ⟨o - 1, by have := Lib.indexByte_ge l c; rename_i h3; simp at h3; omega⟩
        obtain ⟨h0, h1, h2⟩ := cutL_some c l p (by omega)
        refine ⟨by simpa using h0, ?_, ?_⟩
        · rw [cutL, cutF, if_neg hx, cutF_cur c l _ _ _ h1]
          rfl
        · rw [List.count_cons_of_ne hx, h2]
          rfl
theorem index_ev (l : List UInt8) (c : UInt8) : EE 97 [S l, S [c]] = some (N (Lib.indexByte l c)) := EE_hand rfl
theorem count_ev (l : List UInt8) (c : UInt8) : EE 103 [S l, S [c]] = some (N (l.count c : Nat)) := EE_hand rfl
theorem zrow_one (n : Nat) (z : AV) : zrow (n * 1) 1 [z] = List.replicate n z := by
  unfold zrow
  refine List.ext_getElem (by simp) fun i h1 h2 => ?_
  simp [Nat.mod_one]
theorem T_genSplit : TT 68 = some (Tryd.f68, bodyOf Tryd.f68) := by kernel_rfl
theorem genSplit_loop (c : UInt8) : ∀ (d : Nat) (s : List UInt8) (n k : Nat) (done : List (List UInt8)) (id : Nat) (e : Nat → AV) (σ : Sto) (nx : Nat) (q : Option (Ex × St)),
    s.count c = d → s.length < 1000000000 → n < 1000000000 → d < k → done.length + d + 1 = n → roundsE (evC II EE (withOpt [] pf) MX (bodyL Tryd.f68 0)) k ⟨e, σ, nx⟩ = q →
    e 0 = S s → e 1 = S [c] → e 2 = N 0 → e 3 = N ((n - 1 : Nat) : Int) → e 9 = .w id 0 n → e 10 = N done.length → σ id = some (.row 9 1 n (strs done ++ List.replicate (d + 1) (S []))) →
    ∃ e' σ' nx' done' s', q = some (.exit 0, ⟨e', σ', nx'⟩) ∧ e' 0 = S s' ∧ e' 9 = .w id 0 n ∧ e' 10 = N ((n - 1 : Nat) : Int) ∧ done'.length = n - 1 ∧ σ' id = some (.row 9 1 n (strs done' ++ [S []])) ∧ done ++ cutL c s = done' ++ [s'] := by
  intro d
  induction d with
  | zero =>
    intro s n k done id e σ nx q hd hs hn hk hl hq h0 h1 h2 h3 h9 h10 hσ
    obtain ⟨j, rfl⟩ : ∃ j, k = j + 1 := ⟨k - 1, by omega⟩
    have hlen : done.length = n - 1 := by omega
    rw [rounds_rd] at hq
    simp only [bodyL, bodyOf, Tryd.f68, SA, loops, List.nil_append, List.append_nil, List.cons_append, List.getD_cons_zero, List.getD_cons_succ] at hq
    have hc : ¬ (((n - 1 : Nat) : Int) < ((n - 1 : Nat) : Int)) := Int.lt_irrefl _
    rw [hlen] at h10
    simp only [h3, h10, hc, RR, IA, PA, RA0, RA1, RA2, RA3, RA4, RA5, RA6, RA7, RA8, RA9, RA10, Nat.reduceAdd, Nat.reduceMul, Nat.reduceEqDiff, Nat.reduceLeDiff, Nat.reduceLT, Int.reduceToNat, Int.reduceLT, Int.reduceLE, Int.reduceEq, Int.reduceNeg, Int.reduceAdd, Int.reduceSub, Int.reduceMul, reduceIte] at hq
    refine ⟨_, _, _, done, s, hq.symm, h0, h9, h10, hlen, hσ, ?_⟩
    rw [(cutL_none c s ?_).1]
    rcases Int.lt_or_le (Lib.indexByte s c) 0 with h | h
    · have := Lib.indexByte_ge s c; omega
    · obtain ⟨o, ho⟩ := Int.eq_ofNat_of_zero_le h
      have := (cutL_some c s o ho).2.2
      omega
  | succ d ih =>
    intro s n k done id e σ nx q hd hs hn hk hl hq h0 h1 h2 h3 h9 h10 hσ
    obtain ⟨j, rfl⟩ : ∃ j, k = j + 1 := ⟨k - 1, by omega⟩
    obtain ⟨o, ho⟩ : ∃ o : Nat, Lib.indexByte s c = (o : Int) := by
      rcases Int.lt_or_le (Lib.indexByte s c) 0 with h | h
      · have h' : Lib.indexByte s c = -1 := by have := Lib.indexByte_ge s c; omega
        have := (cutL_none c s h').2
        omega
      · exact Int.eq_ofNat_of_zero_le h
    obtain ⟨hol, hcut, hcnt⟩ := cutL_some c s o ho
    rw [rounds_rd] at hq
    simp only [bodyL, bodyOf, Tryd.f68, SA, loops, List.nil_append, List.append_nil, List.cons_append, List.getD_cons_zero, List.getD_cons_succ] at hq
    have hc : ((done.length : Int) < ((n - 1 : Nat) : Int)) := by omega
    have hc2 : ((done.length : Int) < (n : Int)) := by omega
    have hz : (0 : Int) ≤ (done.length : Int) := by omega
    have hoz : ¬ ((o : Int) < 0) := by omega
    have hoz' : (0 : Int) ≤ (o : Int) := by omega
    have hos : ((o : Int) ≤ (s.length : Int)) := by omega
    have hos1 : (((o + 1 : Nat) : Int) ≤ (s.length : Int)) := by omega
    have hos2 : (0 : Int) ≤ ((o + 1 : Nat) : Int) := by omega
    have hw0 : IntKind.i64.wrap ((o : Int) + 0) = (o : Int) := by rw [wrap64 (by omega) (by omega)]; rfl
    have hw1 : IntKind.i64.wrap ((o : Int) + 1) = ((o + 1 : Nat) : Int) := by rw [wrap64 (by omega) (by omega)]; rfl
    have hw : IntKind.i64.wrap ((done.length : Int) + 1) = ((done.length + 1 : Nat) : Int) := by rw [wrap64 (by omega) (by omega)]; rfl
    simp only [h0, h1, h2, h3, h9, h10, hσ, index_ev, ho, hc, hc2, hz, hoz, hoz', hos, hos1, hos2, hw0, hw1, hw, Int.toNat_natCast, RR, IA, PA, RA0, RA1, RA2, RA3, RA4, RA5, RA6, RA7, RA8, RA9, RA10, Nat.reduceAdd, Nat.reduceMul, Nat.reduceEqDiff, Nat.reduceLeDiff, Nat.reduceLT, Int.reduceToNat, Int.reduceLT, Int.reduceLE, Int.reduceEq, Int.reduceNeg, Int.reduceAdd, Int.reduceSub, Int.reduceMul, reduceIte] at hq
    rw [if_pos (by rw [List.length_append, strs_len, List.length_replicate]; omega)] at hq
    have hrow : (strs done ++ List.replicate (d + 1 + 1) (S [])).take done.length ++ [S (s.take o)] ++ (strs done ++ List.replicate (d + 1 + 1) (S [])).drop (done.length + 1) = strs (done ++ [s.take o]) ++ List.replicate (d + 1) (S []) := by
      rw [List.take_append_of_le_length (by rw [strs_len]; omega), List.take_of_length_le (by rw [strs_len]; omega), List.drop_append, List.drop_eq_nil_of_le (by rw [strs_len]; omega), strs_len, List.nil_append, show done.length + 1 - done.length = 1 from by omega, List.drop_replicate, ← strs_append]
      rfl
    have hdl : (s.drop (o + 1)).length ≤ s.length := by simp
    obtain ⟨e', σ', nx', done', s', rfl, a0, a9, a10, al, aσ, ac⟩ := ih (s.drop (o + 1)) n j (done ++ [s.take o]) id _ _ _ q (by omega) (by omega) hn (by omega) (by simp; omega) hq (by first | rfl | simp) h1 h2 h3 h9 (by simp) (by simp only [upd, if_true, ← hrow])
    refine ⟨e', σ', nx', done', s', rfl, a0, a9, a10, al, aσ, ?_⟩
    rw [hcut, ← ac, List.append_assoc]
    rfl
theorem genSplit_ev (s : List UInt8) (c : UInt8) (hs : s.length < 900000000) : EE 68 [S s, S [c], N 0, N (-1)] = some (.o 9 1 (cutL c s).length (strs (cutL c s))) := by
  refine EE_plain T_genSplit (by decide) (Nat.le_of_ble_eq_true rfl) (by rfl) ?_
  rw [show opt 68 = [] from rfl]
  simp only [bodyOf, Tryd.f68, SA]
  have hcl : s.count c ≤ s.length := List.count_le_length
  have hw : IntKind.i64.wrap (((s.count c : Nat) : Int) + 1) = ((s.count c + 1 : Nat) : Int) := by rw [wrap64 (by omega) (by omega)]; rfl
  have hw2 : IntKind.i64.wrap (((s.count c + 1 : Nat) : Int) - 1) = ((s.count c + 1 - 1 : Nat) : Int) := by rw [wrap64 (by omega) (by omega)]; omega
  have hw3 : IntKind.i64.wrap ((s.length : Int) + 1) = ((s.length + 1 : Nat) : Int) := by rw [wrap64 (by omega) (by omega)]; rfl
  have hm : ¬ (((s.length + 1 : Nat) : Int) < ((s.count c + 1 : Nat) : Int)) := by omega
  have hz : (0 : Int) ≤ ((s.count c + 1 : Nat) : Int) := by omega
  have hl1 : (s.count c + 1) * 16 ≤ 140737488355328 := by omega
  have hl2 : s.count c + 1 ≤ 140737488355328 := by omega
  have hce : ([c] == ([] : List UInt8)) = false := rfl
  simp only [hce, count_ev, hw, hw2, hw3, hm, hz, hl1, hl2, mkK_sl, Int.le_refl, Int.toNat_natCast, RR, IA, PA, RA0, RA1, RA2, RA3, RA4, RA5, RA6, RA7, RA8, RA9, RA10, Nat.reduceAdd, Nat.reduceMul, Nat.reduceEqDiff, Nat.reduceLeDiff, Nat.reduceLT, Int.reduceToNat, Int.reduceLT, Int.reduceLE, Int.reduceEq, Int.reduceNeg, Int.reduceAdd, Int.reduceSub, Int.reduceMul, reduceIte]
  generalize hq : roundsE _ _ _ = q
  obtain ⟨e', σ', nx', done', s', rfl, a0, a9, a10, al, aσ, ac⟩ := genSplit_loop c (s.count c) s (s.count c + 1) MX [] _ _ _ _ q rfl (by omega) (by omega) (lt_MX (by omega)) (by simp) hq rfl rfl rfl rfl rfl rfl (by
    simp only [upd, if_true]
    rw [show strs [] = [] from rfl, List.nil_append, ← zrow_one, Nat.mul_one]
    rfl)
  rw [List.nil_append] at ac
  have hlen : (cutL c s).length = s.count c + 1 := by rw [cutL, cutF_len]
  have hz1 : (0 : Int) ≤ ((s.count c + 1 - 1 : Nat) : Int) := by omega
  have hz2 : ((s.count c + 1 - 1 : Nat) : Int) < ((s.count c + 1 : Nat) : Int) := by omega
  have hw4 : IntKind.i64.wrap (((s.count c + 1 - 1 : Nat) : Int) + 1) = ((s.count c + 1 : Nat) : Int) := by rw [wrap64 (by omega) (by omega)]; omega
  simp only [a0, a9, a10, aσ, hz, hz1, hz2, hw4, Int.le_refl, Int.toNat_natCast, RR, IA, PA, RA0, RA1, RA2, RA3, RA4, RA5, RA6, RA7, RA8, RA9, RA10, Nat.reduceAdd, Nat.reduceMul, Nat.reduceEqDiff, Nat.reduceLeDiff, Nat.reduceLT, Int.reduceToNat, Int.reduceLT, Int.reduceLE, Int.reduceEq, Int.reduceNeg, Int.reduceAdd, Int.reduceSub, Int.reduceMul, reduceIte]
  rw [if_pos (by rw [List.length_append, strs_len]; simp; omega)]
  have hrow : (strs done' ++ [S []]).take (s.count c + 1 - 1) ++ [S s'] ++ (strs done' ++ [S []]).drop (s.count c + 1 - 1 + 1) = strs (done' ++ [s']) := by
    rw [List.take_append_of_le_length (by rw [strs_len]; omega), List.take_of_length_le (by rw [strs_len]; omega), List.drop_eq_nil_of_le (by rw [List.length_append, strs_len]; simp; omega), List.append_nil, ← strs_append]
    rfl
  simp only [cut_w_hi, hz, Int.le_refl, Int.toNat_natCast, hrow, RR, IA, PA, RA0, RA1, RA2, RA3, RA4, RA5, RA6, RA7, RA8, RA9, RA10, Nat.reduceAdd, Nat.reduceMul, Nat.reduceEqDiff, Nat.reduceLeDiff, Nat.reduceLT, Int.reduceToNat, Int.reduceLT, Int.reduceLE, Int.reduceEq, Int.reduceNeg, Int.reduceAdd, Int.reduceSub, Int.reduceMul, reduceIte]
  rw [← ac, ← hlen]
  exact give_row (by simp only [upd, if_true]) (strs_closed _)
theorem T_Split : TT 39 = some (Tryd.f39, bodyOf Tryd.f39) := by kernel_rfl
theorem split_ev (s : List UInt8) (c : UInt8) (hs : s.length < 900000000) : EE 39 [S s, S [c]] = some (.o 9 1 (cutL c s).length (strs (cutL c s))) := by
  refine EE_plain T_Split (by decide) (Nat.le_of_ble_eq_true rfl) (by rfl) ?_
  rw [show opt 39 = [] from rfl]
  simp only [bodyOf, Tryd.f39, SA]
  simp only [genSplit_ev s c hs, RR, IA, PA, RA0, RA1, RA2, RA3, RA4, RA5, RA6, RA7, RA8, RA9, RA10, Nat.reduceAdd, Nat.reduceMul, Nat.reduceEqDiff, Nat.reduceLeDiff, Nat.reduceLT, Int.reduceToNat, Int.reduceLT, Int.reduceLE, Int.reduceEq, Int.reduceNeg, Int.reduceAdd, Int.reduceSub, Int.reduceMul, reduceIte]
  exact give_row (by simp only [upd, if_true]) (strs_closed _)
end
end Go.Proofs.YtkilalabmbdmkaaDoor.Ev

/-
Code: the builders, in plain words.
-/
namespace Go.Proofs.YtkilalabmbdmkaaDoor.Ev
section
set_option linter.unusedVariables false
set_option linter.unusedSimpArgs false
open Go Go.RowKit
set_option linter.unusedVariables false
set_option linter.unusedSimpArgs false

/-- Terms, the last one first; loops (sign, variable, how many terms there were), the last one first. -/
structure PS where
  st : List T
  lp : List (UInt8 × UInt8 × Nat)
def baseP : List (UInt8 × UInt8 × Nat) → Nat
  | [] => 0
  | (_, _, b) :: _ => b
/-- The last term, if there is one. -/
def popP (st : List T) (base : Nat) : Option (T × List T) :=
  match st with
  | [] => none
  | x :: r => if (x :: r).length ≤ base then none else some (x, r)
def endP (a : UInt8) (p : PS) : Option PS :=
  match p.lp with
  | [] => none
  | (c, v, b) :: lp =>
    if c + 2 = a ∧ p.st.length = b + 1 then
      (match popP p.st b with
      | some (y, s1) => (match popP s1 (baseP lp) with
        | some (x, s2) => some ⟨.loop c v x y :: s2, lp⟩
        | none => none)
      | none => none)
    else none
/-- An instruction of the reference's. -/
def doP (s : List UInt8) (p : PS) : Option PS :=
  match s with
  | [a] =>
    if isDig a = true then some ⟨.dig a :: p.st, p.lp⟩
    else if isVar a = true then some ⟨.var a :: p.st, p.lp⟩
    else if isOne a = true then (match popP p.st (baseP p.lp) with
      | some (x, s1) => some ⟨.one a x :: s1, p.lp⟩
      | none => none)
    else if isTwo a = true then (match popP p.st (baseP p.lp) with
      | some (y, s1) => (match popP s1 (baseP p.lp) with
        | some (x, s2) => some ⟨.two a x y :: s2, p.lp⟩
        | none => none)
      | none => none)
    else if a = 93 ∨ a = 125 then endP a p
    else none
  | [a, v] => if (a = 91 ∨ a = 123) ∧ isLV v = true then (if baseP p.lp < p.st.length then some ⟨p.st, (a, v, p.st.length) :: p.lp⟩ else none) else none
  | _ => none
/-- All of them, with heights and levels. -/
def runP : List (List UInt8) → PS → Option (PS × List Nat × List Nat)
  | [], p => some (p, [], [])
  | s :: l, p => match doP s p with
    | some p' => (match runP l p' with
      | some (q, hs, ls) => some (q, p'.st.length :: hs, min p.lp.length p'.lp.length :: ls)
      | none => none)
    | none => none
def specB (code : List UInt8) : Option (T × List Nat × List Nat) :=
  if 200 < code.length then none else
  match runP (cutL 32 code) ⟨[], []⟩ with
  | some (⟨[t], []⟩, hs, ls) => if (textT t).length ≤ 80 then some (t, hs, ls) else none
  | _ => none

/-! ### what the reference's builder built -/
def allT (st : List T) : List (List UInt8) := (st.reverse).flatMap listT
theorem allT_cons (x : T) (st : List T) : allT (x :: st) = allT st ++ listT x := by simp [allT]
/-- The code of a state. -/
def codeP : List T → List (UInt8 × UInt8 × Nat) → List (List UInt8)
  | st, [] => allT st
  | st, (c, v, b) :: lp => codeP (st.drop (st.length - b)) lp ++ [[c, v]] ++ allT (st.take (st.length - b))
theorem codeP_push (x : T) (st : List T) (lp : List (UInt8 × UInt8 × Nat)) (h : baseP lp ≤ st.length) : codeP (x :: st) lp = codeP st lp ++ listT x := by
  cases lp with
  | nil => simp [codeP, allT_cons]
  | cons q lp =>
    obtain ⟨c, v, b⟩ := q
    simp only [baseP] at h
    have e : (x :: st).length - b = (st.length - b) + 1 := by simp only [List.length_cons]; omega
    simp only [codeP, e, List.drop_succ_cons, List.take_succ_cons, allT_cons, List.append_assoc]
/-- Signs of loops as they are; each begins behind the one before. -/
def InvL : List (UInt8 × UInt8 × Nat) → Prop
  | [] => True
  | (c, v, b) :: lp => ((c = 91 ∨ c = 123) ∧ isLV v = true) ∧ baseP lp < b ∧ InvL lp
structure InvP (p : PS) : Prop where
  hb : baseP p.lp ≤ p.st.length
  hl : InvL p.lp
  hw : ∀ t ∈ p.st, WF t
theorem popP_some {st : List T} {b : Nat} {x : T} {r : List T} (h : popP st b = some (x, r)) : st = x :: r ∧ b ≤ r.length := by
  cases st with
  | nil => cases h
  | cons y s =>
    simp only [popP] at h
    split at h
    · cases h
    · rename_i hb
      simp only [Option.some.injEq, Prod.mk.injEq] at h
      obtain ⟨rfl, rfl⟩ := h
      simp only [List.length_cons] at hb
      exact ⟨rfl, by omega⟩
theorem popP_mk {x : T} {r : List T} {b : Nat} (h : b ≤ r.length) : popP (x :: r) b = some (x, r) := by
  simp only [popP, List.length_cons]
  rw [if_neg (by omega)]
theorem doP_code {s : List UInt8} {p p' : PS} (h : doP s p = some p') (hp : InvP p) : InvP p' ∧ codeP p'.st p'.lp = codeP p.st p.lp ++ [s] := by
  obtain ⟨st, lp⟩ := p
  obtain ⟨hb, hl, hw⟩ := hp
  simp only at hb hl hw
  unfold doP at h
  split at h
  · rename_i a
    split at h
    · rename_i hd
      obtain rfl := Option.some.inj h
      refine ⟨⟨by simp only [List.length_cons]; omega, hl, ?_⟩, codeP_push _ _ _ hb⟩
      intro t ht
      rcases List.mem_cons.1 ht with rfl | ht
      · exact hd
      · exact hw t ht
    split at h
    · rename_i hd
      obtain rfl := Option.some.inj h
      refine ⟨⟨by simp only [List.length_cons]; omega, hl, ?_⟩, codeP_push _ _ _ hb⟩
      intro t ht
      rcases List.mem_cons.1 ht with rfl | ht
      · exact hd
      · exact hw t ht
    split at h
    · rename_i hd
      split at h
      · rename_i x s1 h1
        obtain rfl := Option.some.inj h
        obtain ⟨h2, hb1⟩ := popP_some h1
        simp only at h2 hb1
        subst h2
        refine ⟨⟨by simp only [List.length_cons]; omega, hl, ?_⟩, ?_⟩
        · intro t ht
          rcases List.mem_cons.1 ht with rfl | ht
          · exact ⟨hd, hw x (by simp)⟩
          · exact hw t (by simp [ht])
        · simp only
          rw [codeP_push _ _ _ hb1, codeP_push _ _ _ hb1]
          simp [listT]
      · cases h
    split at h
    · rename_i hd
      split at h
      · rename_i y s1 h1
        split at h
        · rename_i x s2 h3
          obtain rfl := Option.some.inj h
          obtain ⟨h2, hb1⟩ := popP_some h1
          obtain ⟨h4, hb2⟩ := popP_some h3
          simp only at h2 hb1 h4 hb2
          subst h4
          subst h2
          refine ⟨⟨by simp only [List.length_cons]; omega, hl, ?_⟩, ?_⟩
          · intro t ht
            rcases List.mem_cons.1 ht with rfl | ht
            · exact ⟨hd, hw x (by simp), hw y (by simp)⟩
            · exact hw t (by simp [ht])
          · simp only
            rw [codeP_push _ _ _ hb1, codeP_push _ _ _ hb2, codeP_push _ _ _ hb2]
            simp [listT]
        · cases h
      · cases h
    split at h
    · rename_i he
      cases lp with
      | nil => cases h
      | cons q lp =>
        obtain ⟨c, v, b⟩ := q
        simp only [endP] at h
        simp only [InvL] at hl
        split at h
        · rename_i hc
          split at h
          · rename_i y s1 h1
            split at h
            · rename_i x s2 h3
              obtain rfl := Option.some.inj h
              obtain ⟨h2, hb1⟩ := popP_some h1
              obtain ⟨h4, hb2⟩ := popP_some h3
              subst h4
              subst h2
              have hlen : s2.length + 1 = b := by have := hc.2; simp only [List.length_cons] at this; omega
              refine ⟨⟨by simp only [List.length_cons]; omega, hl.2.2, ?_⟩, ?_⟩
              · intro t ht
                rcases List.mem_cons.1 ht with rfl | ht
                · exact ⟨hl.1.1, hl.1.2, hw x (by simp), hw y (by simp)⟩
                · exact hw t (by simp [ht])
              · simp only
                rw [codeP_push _ _ _ hb2, codeP]
                have e : (y :: x :: s2).length - b = 1 := by simp only [List.length_cons]; omega
                rw [e]
                simp only [List.drop_succ_cons, List.drop_zero, List.take_succ_cons, List.take_zero]
                rw [codeP_push _ _ _ hb2, ← hc.1]
                simp [listT, allT]
            · cases h
          · cases h
        · cases h
    · cases h
  · rename_i a v
    split at h
    · rename_i hc
      split at h
      · rename_i hlt
        obtain rfl := Option.some.inj h
        refine ⟨⟨Nat.le_refl _, ⟨hc, hlt, hl⟩, hw⟩, ?_⟩
        simp [codeP, allT]
      · cases h
    · cases h
  · cases h
theorem runP_code : ∀ {l : List (List UInt8)} {p q : PS} {hs ls : List Nat}, runP l p = some (q, hs, ls) → InvP p → InvP q ∧ codeP q.st q.lp = codeP p.st p.lp ++ l
  | [], p, q, hs, ls, h, hp => by
    simp only [runP, Option.some.injEq, Prod.mk.injEq] at h
    obtain ⟨rfl, _, _⟩ := h
    exact ⟨hp, by simp⟩
  | s :: l, p, q, hs, ls, h, hp => by
    simp only [runP] at h
    split at h
    · rename_i p' h1
      split at h
      · rename_i q' hs' ls' h2
        simp only [Option.some.injEq, Prod.mk.injEq] at h
        obtain ⟨rfl, _, _⟩ := h
        obtain ⟨k1, k2⟩ := doP_code h1 hp
        obtain ⟨k3, k4⟩ := runP_code h2 k1
        exact ⟨k3, by rw [k4, k2]; simp⟩
      · cases h
    · cases h
theorem runP_back {l : List (List UInt8)} {t : T} {hs ls : List Nat} (h : runP l ⟨[], []⟩ = some (⟨[t], []⟩, hs, ls)) : WF t ∧ listT t = l := by
  obtain ⟨h1, h2⟩ := runP_code h ⟨Nat.le_refl _, trivial, fun t h => absurd h List.not_mem_nil⟩
  refine ⟨h1.hw t (by simp), ?_⟩
  simpa [codeP, allT] using h2

/-! ### the code of a term gives it again -/
theorem runP_app {l r : List (List UInt8)} {p p1 q : PS} {hs ls hs' ls' : List Nat} (h : runP l p = some (p1, hs, ls)) (h2 : runP r p1 = some (q, hs', ls')) : runP (l ++ r) p = some (q, hs ++ hs', ls ++ ls') := by
  induction l generalizing p hs ls with
  | nil =>
    simp only [runP, Option.some.injEq, Prod.mk.injEq] at h
    obtain ⟨rfl, rfl, rfl⟩ := h
    simpa using h2
  | cons s l ih =>
    simp only [runP] at h
    split at h
    · rename_i p' h1
      split at h
      · rename_i q' hs1 ls1 h3
        simp only [Option.some.injEq, Prod.mk.injEq] at h
        obtain ⟨rfl, rfl, rfl⟩ := h
        rw [List.cons_append, runP, h1]
        simp only
        rw [ih h3]
        rfl
      · cases h
    · cases h
theorem runP_one {s : List UInt8} {p p' : PS} (h : doP s p = some p') : ∃ hs ls, runP [s] p = some (p', hs, ls) := by
  refine ⟨[p'.st.length], [min p.lp.length p'.lp.length], ?_⟩
  simp [runP, h]
theorem two_not {c : UInt8} (h : isTwo c = true) : isVar c = false ∧ isDig c = false ∧ isOne c = false := by
  have h2 : c = 43 ∨ c = 42 ∨ c = 94 ∨ c = 45 ∨ c = 61 ∨ c = 60 ∨ c = 64 := by simpa [isTwo] using h
  rcases h2 with rfl | rfl | rfl | rfl | rfl | rfl | rfl <;> exact ⟨rfl, rfl, rfl⟩
theorem var_not {c : UInt8} (h : isVar c = true) : isDig c = false := by
  cases hd : isDig c
  · rfl
  · rw [dig_not_var hd] at h; cases h
theorem runP_list : ∀ (t : T), WF t → ∀ (p : PS), baseP p.lp ≤ p.st.length → ∃ hs ls, runP (listT t) p = some (⟨t :: p.st, p.lp⟩, hs, ls) := by
  intro t
  induction t with
  | dig c =>
    intro hw p hb
    have hw : isDig c = true := hw
    exact runP_one (by simp [doP, hw])
  | var c =>
    intro hw p hb
    have hw : isVar c = true := hw
    exact runP_one (by simp [doP, hw, var_not hw])
  | one s x ih =>
    intro hw p hb
    obtain ⟨h1, l1, e1⟩ := ih hw.2 p hb
    have hd := one_not hw.1
    obtain ⟨h2, l2, e2⟩ := runP_one (s := [s]) (p := ⟨x :: p.st, p.lp⟩) (p' := ⟨.one s x :: p.st, p.lp⟩) (by simp [doP, hd.1, hd.2, hw.1, popP_mk hb])
    exact ⟨_, _, runP_app e1 e2⟩
  | two s x y ihx ihy =>
    intro hw p hb
    obtain ⟨h1, l1, e1⟩ := ihx hw.2.1 p hb
    obtain ⟨h2, l2, e2⟩ := ihy hw.2.2 ⟨x :: p.st, p.lp⟩ (by simp only [List.length_cons]; omega)
    have hd := two_not hw.1
    have hb1 : baseP p.lp ≤ (x :: p.st).length := by simp only [List.length_cons]; omega
    obtain ⟨h3, l3, e3⟩ := runP_one (s := [s]) (p := ⟨y :: x :: p.st, p.lp⟩) (p' := ⟨.two s x y :: p.st, p.lp⟩) (by simp [doP, hd.1, hd.2.1, hd.2.2, hw.1, popP_mk hb, popP_mk hb1])
    exact ⟨_, _, runP_app (runP_app e1 e2) e3⟩
  | loop s v x y ihx ihy =>
    intro hw p hb
    obtain ⟨h1, l1, e1⟩ := ihx hw.2.2.1 p hb
    have hlt : baseP p.lp < (x :: p.st).length := by simp only [List.length_cons]; omega
    obtain ⟨h2, l2, e2⟩ := runP_one (s := [s, v]) (p := ⟨x :: p.st, p.lp⟩) (p' := ⟨x :: p.st, (s, v, (x :: p.st).length) :: p.lp⟩) (by
      simp only [doP]
      rw [if_pos ⟨hw.1, hw.2.1⟩, if_pos hlt])
    obtain ⟨h3, l3, e3⟩ := ihy hw.2.2.2 ⟨x :: p.st, (s, v, (x :: p.st).length) :: p.lp⟩ (Nat.le_refl _)
    obtain ⟨h4, l4, e4⟩ := runP_one (s := [s + 2]) (p := ⟨y :: x :: p.st, (s, v, (x :: p.st).length) :: p.lp⟩) (p' := ⟨.loop s v x y :: p.st, p.lp⟩) (by
      have e5 : endP (s + 2) ⟨y :: x :: p.st, (s, v, (x :: p.st).length) :: p.lp⟩ = some ⟨.loop s v x y :: p.st, p.lp⟩ := by
        simp only [endP]
        rw [if_pos ⟨trivial, rfl⟩, popP_mk (Nat.le_refl _)]
        simp only [popP_mk hb]
      rcases hw.1 with rfl | rfl
      · simpa [doP, isDig, isVar, isOne, isTwo] using e5
      · simpa [doP, isDig, isVar, isOne, isTwo] using e5)
    exact ⟨_, _, runP_app (runP_app (runP_app e1 e2) e3) e4⟩
/-! ### lists and texts -/
theorem cutF_join (c : UInt8) : ∀ (l cur : List UInt8), Lib.join (cutF c cur l) [c] = cur ++ l
  | [], cur => by simp [cutF, Lib.join_cons, Lib.joinTail]
  | x :: l, cur => by
    rw [cutF]
    by_cases h : x = c
    · subst h
      rw [if_pos rfl, Lib.join_cons]
      have := cutF_join x l []
      obtain ⟨a, t, e⟩ := cutL_cons x l
      simp only [cutL] at e
      rw [e] at this ⊢
      simp only [Lib.join_cons] at this
      have e2 : Lib.joinTail [x] (a :: t) = x :: (a ++ Lib.joinTail [x] t) := by simp [Lib.joinTail]
      rw [e2, this]
      simp
    · rw [if_neg h, cutF_join c l]
      simp
theorem join_cut (code : List UInt8) : joinS (cutL 32 code) = code := by
  have := cutF_join 32 code []
  simpa [joinS, cutL] using this
theorem cutF_none (c : UInt8) : ∀ (l cur : List UInt8), c ∉ l → cutF c cur l = [cur ++ l]
  | [], cur, _ => by simp [cutF]
  | x :: l, cur, h => by
    simp only [List.mem_cons, not_or] at h
    rw [cutF, if_neg (fun e => h.1 e.symm), cutF_none c l _ h.2]
    simp
theorem cutF_piece (c : UInt8) : ∀ (a cur r : List UInt8), c ∉ a → cutF c cur (a ++ c :: r) = (cur ++ a) :: cutF c [] r
  | [], cur, r, _ => by simp [cutF]
  | x :: a, cur, r, h => by
    simp only [List.mem_cons, not_or] at h
    rw [List.cons_append, cutF, if_neg (fun e => h.1 e.symm), cutF_piece c a _ r h.2]
    simp
theorem cut_tail (c : UInt8) : ∀ (L : List (List UInt8)) (x : List UInt8), c ∉ x → (∀ y ∈ L, c ∉ y) → cutF c [] (x ++ Lib.joinTail [c] L) = x :: L
  | [], x, hx, _ => by simp [Lib.joinTail, cutF_none c x [] hx]
  | y :: L, x, hx, h => by
    have : x ++ Lib.joinTail [c] (y :: L) = x ++ c :: (y ++ Lib.joinTail [c] L) := by simp [Lib.joinTail]
    rw [this, cutF_piece c x [] _ hx, cut_tail c L y (h y (by simp)) fun z hz => h z (by simp [hz])]
    simp
theorem cut_join (L : List (List UInt8)) (h0 : L ≠ []) (h : ∀ y ∈ L, (32 : UInt8) ∉ y) : cutL 32 (joinS L) = L := by
  cases L with
  | nil => exact absurd rfl h0
  | cons x L =>
    rw [joinS, Lib.join_cons, cutL]
    exact cut_tail 32 L x (h x (by simp)) fun y hy => h y (by simp [hy])
theorem list_ne (t : T) : listT t ≠ [] := by cases t <;> simp [listT]
theorem list_clean : ∀ (t : T), WF t → ∀ y ∈ listT t, (32 : UInt8) ∉ y := by
  intro t
  induction t with
  | dig c =>
    intro hw y hy
    simp only [listT, List.mem_singleton] at hy
    subst hy
    have hw : isDig c = true := hw
    simp only [List.mem_singleton]
    rintro rfl
    exact absurd hw (by decide)
  | var c =>
    intro hw y hy
    simp only [listT, List.mem_singleton] at hy
    subst hy
    have hw : isVar c = true := hw
    simp only [List.mem_singleton]
    rintro rfl
    exact absurd hw (by decide)
  | one s x ih =>
    intro hw y hy
    simp only [listT, List.mem_append, List.mem_singleton] at hy
    rcases hy with hy | rfl
    · exact ih hw.2 y hy
    · simp only [List.mem_singleton]
      rintro rfl
      exact absurd hw.1 (by decide)
  | two s x y ihx ihy =>
    intro hw z hz
    simp only [listT, List.mem_append, List.mem_singleton] at hz
    rcases hz with (hz | hz) | rfl
    · exact ihx hw.2.1 z hz
    · exact ihy hw.2.2 z hz
    · simp only [List.mem_singleton]
      rintro rfl
      exact absurd hw.1 (by decide)
  | loop s v x y ihx ihy =>
    intro hw z hz
    simp only [listT, List.mem_append, List.mem_singleton] at hz
    rcases hz with ((hz | rfl) | hz) | rfl
    · exact ihx hw.2.2.1 z hz
    · simp only [List.mem_cons, List.not_mem_nil, or_false, not_or]
      refine ⟨?_, ?_⟩
      · rintro rfl
        exact absurd hw.1 (by decide)
      · rintro rfl
        exact absurd hw.2.1 (by decide)
    · exact ihy hw.2.2.2 z hz
    · simp only [List.mem_singleton]
      intro h
      rcases hw.1 with rfl | rfl <;> exact absurd h (by decide)
theorem cut_list {t : T} (hw : WF t) : cutL 32 (joinS (listT t)) = listT t := cut_join _ (list_ne t) (list_clean t hw)
end
end Go.Proofs.YtkilalabmbdmkaaDoor.Ev

/-
Code: the reference's builder, told by its terms and loops.
-/
namespace Go.Proofs.YtkilalabmbdmkaaDoor.Ev
section
set_option linter.unusedVariables false
set_option linter.unusedSimpArgs false
open Go Go.RowKit
set_option linter.unusedVariables false
set_option linter.unusedSimpArgs false
structure BR (p : PS) (a b c : RS) : Prop where
  ok : BOk a b c
  an : a.n = p.st.length
  ac : a.cs = p.st.reverse.flatMap encN
  bn : b.n = p.lp.length
  bc : b.cs = p.lp.reverse.map fun q => S [q.1, q.2.1]
  cn : c.n = p.lp.length
  cc : c.cs = p.lp.reverse.map fun q => N (q.2.2 : Int)
theorem BR.base {p : PS} {a b c : RS} (h : BR p a b c) : IsBase c (baseP p.lp) := by
  obtain ⟨st, lp⟩ := p
  have h1 := h.cn
  have h2 := h.cc
  cases lp with
  | nil => exact .inl ⟨h1, rfl⟩
  | cons q l =>
    obtain ⟨x, y, z⟩ := q
    simp only [List.length_cons] at h1
    refine .inr ⟨by omega, (l.reverse.map fun q => N (q.2.2 : Int)), ?_, ?_⟩
    · rw [h2]; simp [baseP]
    · simp; omega
theorem BR.bl {p : PS} {a b c : RS} (h : BR p a b c) (hp : baseP p.lp ≤ p.st.length) : baseP p.lp < 1000000000 := by
  have := h.ok.an
  have := h.an
  omega
theorem pop_br_none {p : PS} {a b c : RS} (h : BR p a b c) (hb : baseP p.lp < 1000000000) (hp : popP p.st (baseP p.lp) = none) :
    EE 100 [lent 84 [rsV a, rsV b, rsV c]] = some (.t [.t [.a zeroN, B false], .t [lent 84 [rsV a, rsV b, rsV c]]]) := by
  refine pop_none a b c h.ok (baseP p.lp) h.base ?_ hb
  rw [h.an]
  cases hs : p.st with
  | nil => simp
  | cons x r =>
    rw [hs] at hp
    simp only [popP] at hp
    split at hp
    · rename_i hle; exact hle
    · cases hp
theorem flat_len (st : List T) : (st.reverse.flatMap encN).length = st.length * 3 := by
  induction st with
  | nil => rfl
  | cons x r ih => simp only [List.reverse_cons, List.flatMap_append, List.flatMap_cons, List.flatMap_nil, List.append_nil, List.length_append, ih, encN_len, List.length_cons]; omega
theorem flat_closed (st : List T) : closedL (st.reverse.flatMap encN) = true := by
  induction st with
  | nil => rfl
  | cons x r ih => simp only [List.reverse_cons, List.flatMap_append, List.flatMap_cons, List.flatMap_nil, List.append_nil, closedL_append, ih, encN_closed, Bool.and_self]
def popR (a : RS) (pa : List AV) : RS := { a with n := a.n - 1, cs := pa }
theorem BR.popped {p : PS} {a b c : RS} (h : BR p a b c) {x : T} {r : List T} (hs : p.st = x :: r) : BR ⟨r, p.lp⟩ (popR a (r.reverse.flatMap encN)) b c := by
  have h1 := h.an
  rw [hs, List.length_cons] at h1
  have ho := h.ok
  have hab : a.b = true := by
    cases hb : a.b
    · have := (ho.ha.2.2 hb).1; omega
    · rfl
  refine ⟨⟨⟨?_, ?_, ?_⟩, ho.hb, ho.hc, ho.aE, ho.aS, ho.bE, ho.bS, ho.cE, ho.cS, ?_, ho.bn, ho.cn⟩, ?_, rfl, h.bn, h.bc, h.cn, h.cc⟩
  · simp only [popR, flat_len, ho.aS]; omega
  · exact flat_closed r
  · simp only [popR, hab]; intro hh; cases hh
  · have := ho.an; simp only [popR]; omega
  · simp only [popR]; omega
theorem pop_br {p : PS} {a b c : RS} (h : BR p a b c) {x : T} {r : List T} (hp : popP p.st (baseP p.lp) = some (x, r)) :
    EE 100 [lent 84 [rsV a, rsV b, rsV c]] = some (.t [.t [.a (encN x), B true], .t [lent 84 [rsV (popR a (r.reverse.flatMap encN)), rsV b, rsV c]]]) := by
  obtain ⟨hs, hle⟩ := popP_some hp
  have h1 := h.an
  rw [hs, List.length_cons] at h1
  refine pop_some a b c h.ok (baseP p.lp) h.base (by omega) (r.reverse.flatMap encN) (encN x) ?_ (encN_len x) (encN_leaf x) ?_
  · rw [h.ac, hs]; simp
  · rw [flat_len, h1]; omega
theorem BR.pushed {p : PS} {a b c : RS} (h : BR p a b c) (x : T) (hb : p.st.length + 1 < 1000000000) : BR ⟨x :: p.st, p.lp⟩ (pushR a (encN x)) b c := by
  have h1 := h.an
  have ho := h.ok
  have e : a.cs ++ encN x = (x :: p.st).reverse.flatMap encN := by rw [h.ac]; simp
  refine ⟨⟨⟨?_, ?_, ?_⟩, ho.hb, ho.hc, rfl, rfl, ho.bE, ho.bS, ho.cE, ho.cS, ?_, ho.bn, ho.cn⟩, ?_, e, h.bn, h.bc, h.cn, h.cc⟩
  · simp only [pushR, e, flat_len, List.length_cons]; omega
  · simp only [pushR, e]; exact flat_closed _
  · intro hh; cases hh
  · simp only [pushR]; omega
  · simp only [pushR, List.length_cons]; omega
theorem push_br {p : PS} {a b c : RS} (h : BR p a b c) (x : T) :
    EE 99 [lent 84 [rsV a, rsV b, rsV c], .a (encN x)] = some (.t [.t [], .t [lent 84 [rsV (pushR a (encN x)), rsV b, rsV c], .a (encN x)]]) :=
  push_ok a b c h.ok (encN x) (encN_len x) (encN_leaf x) (encN_closed x)
theorem pushR_ok {a : RS} {cell : List AV} (h : rsOk a) (hs : a.sz = 3) (hcl : cell.length = 3) (hcc : closedL cell = true) : rsOk (pushR a cell) := by
  refine ⟨?_, ?_, fun hh => by cases hh⟩
  · have := h.1
    rw [hs] at this
    simp only [pushR, List.length_append, this, hcl]; omega
  · simp only [pushR, closedL_append, h.2.1, hcc, Bool.and_self]
theorem in3 {a b c : RS} (ha : rsOk a) (hb : rsOk b) (hc : rsOk c) : ∀ o ∈ [a, b, c], rsOk o := by
  intro o ho
  simp only [List.mem_cons, List.not_mem_nil, or_false] at ho
  rcases ho with rfl | rfl | rfl
  · exact ha
  · exact hb
  · exact hc
/-- What an instruction of one byte is. -/
theorem kind_a {a : UInt8} (h : isDig a = true ∨ isVar a = true) : kindM [a] = 97 := by
  rcases h with h | h <;> simp [kindM, h]
theorem kind_S {a : UInt8} (h : isOne a = true) : kindM [a] = 83 := by
  have := one_not h
  simp [kindM, h, this]
theorem kind_2 {a : UInt8} (h : isTwo a = true) : kindM [a] = 43 := by
  have := two_not h
  simp [kindM, h, this]
theorem kind_end {a : UInt8} (h : a = 93 ∨ a = 125) : kindM [a] = 93 := by
  rcases h with rfl | rfl <;> rfl
end
end Go.Proofs.YtkilalabmbdmkaaDoor.Ev

/-
Code: the implementation's builder in plain words; both build the same.
-/
namespace Go.Proofs.YtkilalabmbdmkaaDoor.Ev
section
set_option linter.unusedVariables false
set_option linter.unusedSimpArgs false
open Go Go.RowKit
set_option linter.unusedVariables false
set_option linter.unusedSimpArgs false

/-- A term of one byte. -/
def leafI (a : UInt8) : T := if isDig a = true then .dig a else .var a
/-- An instruction of the implementation's: terms and loops, the last ones first. -/
def doI (s : List UInt8) (st : List T) (op : List (UInt8 × UInt8)) : Option (List T × List (UInt8 × UInt8)) :=
  match s with
  | [a] =>
    if a = 93 ∨ a = 125 then (match op with
      | [] => none
      | (c, v) :: op' => (match st with
        | y :: x :: st' => some (.loop c v x y :: st', op')
        | _ => none))
    else if isOne a = true then (match st with
      | x :: st' => some (.one a x :: st', op)
      | _ => none)
    else if isTwo a = true then (match st with
      | y :: x :: st' => some (.two a x y :: st', op)
      | _ => none)
    else some (leafI a :: st, op)
  | [a, v] => if a = 91 ∨ a = 123 then some (st, (a, v) :: op) else none
  | _ => none
def runI : List (List UInt8) → List T → List (UInt8 × UInt8) → Option (List T × List (UInt8 × UInt8))
  | [], st, op => some (st, op)
  | s :: l, st, op => match doI s st op with
    | some (st', op') => runI l st' op'
    | none => none
def codeT (t : List UInt8) : Option (List UInt8) := (rdT t).map fun u => joinS (listT u)
def implB (code : List UInt8) : Option T :=
  if 200 < code.length then none else
  match runI (cutL 32 code) [] [] with
  | some ([t], []) => if codeT (textT t) = some code then some t else none
  | _ => none
/-! ### what it builds -/
def szT (st : List T) : Nat := (st.map fun t => (textT t).length).sum
theorem szT_cons (x : T) (st : List T) : szT (x :: st) = (textT x).length + szT st := by simp [szT]
theorem doI_sz {s : List UInt8} {st st' : List T} {op op' : List (UInt8 × UInt8)} (h : doI s st op = some (st', op')) : szT st' ≤ szT st + 5 := by
  unfold doI at h
  split at h
  · rename_i a
    split at h
    · split at h
      · cases h
      · rename_i c v op1
        split at h
        · rename_i y x st1
          simp only [Option.some.injEq, Prod.mk.injEq] at h
          obtain ⟨rfl, rfl⟩ := h
          simp only [szT_cons, textT, List.length_cons, List.length_append, List.length_nil]
          omega
        · cases h
    split at h
    · split at h
      · rename_i x st1
        simp only [Option.some.injEq, Prod.mk.injEq] at h
        obtain ⟨rfl, rfl⟩ := h
        simp only [szT_cons, textT, List.length_cons, List.length_append, List.length_nil]
        omega
      · cases h
    split at h
    · split at h
      · rename_i y x st1
        simp only [Option.some.injEq, Prod.mk.injEq] at h
        obtain ⟨rfl, rfl⟩ := h
        simp only [szT_cons, textT, List.length_cons, List.length_append, List.length_nil]
        omega
      · cases h
    · simp only [Option.some.injEq, Prod.mk.injEq] at h
      obtain ⟨rfl, rfl⟩ := h
      have : (textT (leafI a)).length = 1 := by unfold leafI; split <;> rfl
      simp only [szT_cons]
      omega
  · rename_i a v
    split at h
    · simp only [Option.some.injEq, Prod.mk.injEq] at h
      obtain ⟨rfl, rfl⟩ := h
      omega
    · cases h
  · cases h
theorem runI_sz : ∀ {l : List (List UInt8)} {st st' : List T} {op op' : List (UInt8 × UInt8)}, runI l st op = some (st', op') → szT st' ≤ szT st + 5 * l.length
  | [], st, st', op, op', h => by
    simp only [runI, Option.some.injEq, Prod.mk.injEq] at h
    obtain ⟨rfl, rfl⟩ := h
    simp
  | s :: l, st, st', op, op', h => by
    simp only [runI] at h
    split at h
    · rename_i st1 op1 h1
      have := runI_sz h
      have := doI_sz h1
      simp only [List.length_cons]
      omega
    · cases h
def OpOk (op : List (UInt8 × UInt8)) : Prop := ∀ q ∈ op, q.1 = 91 ∨ q.1 = 123
theorem doI_l {s : List UInt8} {st st' : List T} {op op' : List (UInt8 × UInt8)} (h : doI s st op = some (st', op')) (h1 : ∀ t ∈ st, WFL t) (h2 : OpOk op) : (∀ t ∈ st', WFL t) ∧ OpOk op' := by
  unfold doI at h
  split at h
  · rename_i a
    split at h
    · split at h
      · cases h
      · rename_i c v op1
        split at h
        · rename_i y x st1
          simp only [Option.some.injEq, Prod.mk.injEq] at h
          obtain ⟨rfl, rfl⟩ := h
          refine ⟨fun t ht => ?_, fun q hq => h2 q (by simp [hq])⟩
          rcases List.mem_cons.1 ht with rfl | ht
          · exact ⟨h2 (c, v) (by simp), h1 x (by simp), h1 y (by simp)⟩
          · exact h1 t (by simp [ht])
        · cases h
    split at h
    · split at h
      · rename_i x st1
        simp only [Option.some.injEq, Prod.mk.injEq] at h
        obtain ⟨rfl, rfl⟩ := h
        refine ⟨fun t ht => ?_, h2⟩
        rcases List.mem_cons.1 ht with rfl | ht
        · exact h1 x (by simp)
        · exact h1 t (by simp [ht])
      · cases h
    split at h
    · split at h
      · rename_i y x st1
        simp only [Option.some.injEq, Prod.mk.injEq] at h
        obtain ⟨rfl, rfl⟩ := h
        refine ⟨fun t ht => ?_, h2⟩
        rcases List.mem_cons.1 ht with rfl | ht
        · exact ⟨h1 x (by simp), h1 y (by simp)⟩
        · exact h1 t (by simp [ht])
      · cases h
    · simp only [Option.some.injEq, Prod.mk.injEq] at h
      obtain ⟨rfl, rfl⟩ := h
      refine ⟨fun t ht => ?_, h2⟩
      rcases List.mem_cons.1 ht with rfl | ht
      · unfold leafI
        split <;> exact trivial
      · exact h1 t ht
  · rename_i a v
    split at h
    · rename_i hc
      simp only [Option.some.injEq, Prod.mk.injEq] at h
      obtain ⟨rfl, rfl⟩ := h
      refine ⟨h1, fun q hq => ?_⟩
      rcases List.mem_cons.1 hq with rfl | hq
      · exact hc
      · exact h2 q hq
    · cases h
  · cases h
theorem runI_l : ∀ {l : List (List UInt8)} {st st' : List T} {op op' : List (UInt8 × UInt8)}, runI l st op = some (st', op') → (∀ t ∈ st, WFL t) → OpOk op → (∀ t ∈ st', WFL t) ∧ OpOk op'
  | [], st, st', op, op', h, h1, h2 => by
    simp only [runI, Option.some.injEq, Prod.mk.injEq] at h
    obtain ⟨rfl, rfl⟩ := h
    exact ⟨h1, h2⟩
  | s :: l, st, st', op, op', h, h1, h2 => by
    simp only [runI] at h
    split at h
    · rename_i st1 op1 h3
      obtain ⟨k1, k2⟩ := doI_l h3 h1 h2
      exact runI_l h k1 k2
    · cases h
/-! ### the code of a term gives it -/
theorem runI_app : ∀ {l r : List (List UInt8)} {st st1 : List T} {op op1 : List (UInt8 × UInt8)}, runI l st op = some (st1, op1) → runI (l ++ r) st op = runI r st1 op1
  | [], r, st, st1, op, op1, h => by
    simp only [runI, Option.some.injEq, Prod.mk.injEq] at h
    obtain ⟨rfl, rfl⟩ := h
    rfl
  | s :: l, r, st, st1, op, op1, h => by
    simp only [runI] at h
    rw [List.cons_append, runI]
    split at h
    · exact runI_app h
    · cases h
theorem end_not {a : UInt8} (h : a = 93 ∨ a = 125) : isOne a = false ∧ isTwo a = false ∧ isDig a = false ∧ isVar a = false := by rcases h with rfl | rfl <;> exact ⟨rfl, rfl, rfl, rfl⟩
theorem not_end {a : UInt8} (h : isOne a = true ∨ isTwo a = true ∨ isDig a = true ∨ isVar a = true) : ¬ (a = 93 ∨ a = 125) := by
  intro k
  have := end_not k
  simp [this] at h
theorem dig_not_one {a : UInt8} (h : isDig a = true) : isOne a = false ∧ isTwo a = false := by
  constructor
  · cases hx : isOne a
    · rfl
    · have := (one_not hx).2; rw [h] at this; cases this
  · cases hx : isTwo a
    · rfl
    · have := (two_not hx).2.1; rw [h] at this; cases this
theorem var_not_one {a : UInt8} (h : isVar a = true) : isOne a = false ∧ isTwo a = false := by
  constructor
  · cases hx : isOne a
    · rfl
    · have := (one_not hx).1; rw [h] at this; cases this
  · cases hx : isTwo a
    · rfl
    · have := (two_not hx).1; rw [h] at this; cases this
theorem runI_list : ∀ (t : T), WF t → ∀ (st : List T) (op : List (UInt8 × UInt8)), runI (listT t) st op = some (t :: st, op) := by
  intro t
  induction t with
  | dig c =>
    intro hw st op
    have hw : isDig c = true := hw
    have h1 := dig_not_one hw
    have h2 := not_end (.inr (.inr (.inl hw)))
    simp only [listT, runI, doI, if_neg h2, h1.1, h1.2, leafI, hw]
    rfl
  | var c =>
    intro hw st op
    have hw : isVar c = true := hw
    have h1 := var_not_one hw
    have h2 := not_end (.inr (.inr (.inr hw)))
    simp only [listT, runI, doI, if_neg h2, h1.1, h1.2, leafI, var_not hw]
    rfl
  | one s x ih =>
    intro hw st op
    have h2 := not_end (.inl hw.1)
    rw [listT, runI_app (ih hw.2 st op)]
    simp only [runI, doI, if_neg h2, hw.1, if_true]
  | two s x y ihx ihy =>
    intro hw st op
    have h2 := not_end (.inr (.inl hw.1))
    have h1 := (two_not hw.1).2.2
    rw [listT, List.append_assoc, runI_app (ihx hw.2.1 st op), runI_app (ihy hw.2.2 _ op)]
    simp only [runI, doI, if_neg h2, hw.1, h1, if_true]
    rfl
  | loop s v x y ihx ihy =>
    intro hw st op
    have e1 : runI [[s, v]] (x :: st) op = some (x :: st, (s, v) :: op) := by
      simp only [runI, doI, if_pos hw.1]
    have h2 : s + 2 = 93 ∨ s + 2 = 125 := by rcases hw.1 with rfl | rfl <;> decide
    rw [listT, List.append_assoc, List.append_assoc, runI_app (ihx hw.2.2.1 st op), runI_app e1, runI_app (ihy hw.2.2.2 _ _)]
    simp only [runI, doI, if_pos h2]
/-! ### both build the same -/
theorem cutL_len (c : UInt8) (l : List UInt8) : (cutL c l).length ≤ l.length + 1 := by
  rw [cutL, cutF_len]
  have := List.count_le_length (a := c) (l := l)
  omega
theorem spec_impl {code : List UInt8} {t : T} {hs ls : List Nat} (h : specB code = some (t, hs, ls)) : implB code = some t ∧ WF t ∧ cutL 32 code = listT t ∧ runP (listT t) ⟨[], []⟩ = some (⟨[t], []⟩, hs, ls) ∧ rdT (textT t) = some t := by
  unfold specB at h
  split at h
  · cases h
  · rename_i hl
    split at h
    · rename_i t' hs' ls' hr
      split at h
      · rename_i h80
        simp only [Option.some.injEq, Prod.mk.injEq] at h
        obtain ⟨rfl, rfl, rfl⟩ := h
        obtain ⟨hw, hc⟩ := runP_back hr
        have hrd := rdT_of hw h80
        have e : joinS (listT t') = code := by rw [hc, join_cut]
        refine ⟨?_, hw, hc.symm, by rw [hc]; exact hr, hrd⟩
        unfold implB
        rw [if_neg hl, ← hc, runI_list t' hw]
        simp only [codeT, hrd, Option.map_some, e, if_true]
      · cases h
    · cases h
theorem impl_spec {code : List UInt8} {t : T} (h : implB code = some t) : ∃ hs ls, specB code = some (t, hs, ls) := by
  unfold implB at h
  split at h
  · cases h
  · rename_i hl
    split at h
    · rename_i t' hr
      split at h
      · rename_i hc
        obtain rfl := Option.some.inj h
        unfold codeT at hc
        cases hrd : rdT (textT t') with
        | none => rw [hrd] at hc; cases hc
        | some u =>
          rw [hrd] at hc
          simp only [Option.map_some, Option.some.injEq] at hc
          obtain ⟨hw, h1, h2⟩ := rdT_wf hrd
          have e1 : cutL 32 code = listT u := by rw [← hc, cut_list hw]
          rw [e1, runI_list u hw] at hr
          simp only [Option.some.injEq, Prod.mk.injEq, List.cons.injEq, and_true] at hr
          subst hr
          obtain ⟨hs, ls, h3⟩ := runP_list u hw ⟨[], []⟩ (Nat.le_refl _)
          refine ⟨hs, ls, ?_⟩
          unfold specB
          rw [if_neg hl, e1, h3]
          simp only
          rw [if_pos h2]
      · cases h
    · cases h
theorem impl_eq (code : List UInt8) : implB code = (specB code).map (·.1) := by
  cases h : specB code with
  | none =>
    cases k : implB code with
    | none => rfl
    | some t =>
      obtain ⟨hs, ls, e⟩ := impl_spec k
      rw [h] at e; cases e
  | some q =>
    obtain ⟨t, hs, ls⟩ := q
    exact (spec_impl h).1
end
end Go.Proofs.YtkilalabmbdmkaaDoor.Ev

/-
Code: what the reference's builder does at an instruction.
-/
namespace Go.Proofs.YtkilalabmbdmkaaDoor.Ev
section
set_option linter.unusedVariables false
set_option linter.unusedSimpArgs false
open Go Go.RowKit
set_option linter.unusedVariables false
set_option linter.unusedSimpArgs false
theorem do_a {p : PS} {a b c : RS} (h : BR p a b c) (x : UInt8) (hx : isDig x = true ∨ isVar x = true) :
    EE 64 [lent 84 [rsV a, rsV b, rsV c], S [x]] = some (.t [B true, .t [lent 84 [rsV (pushR a (encN (leafI x))), rsV b, rsV c], S [x]]]) := by
  have ho := h.ok
  refine EE_rows (os := [a, b, c]) (xs := [S [x]]) T_do rfl (Nat.le_of_ble_eq_true rfl) (in3 ho.ha ho.hb ho.hc) rfl ?_
  intro ds σ k L hR hn hσ hL hk1 hk
  rw [show opt 64 = [] from rfl]
  simp only [bodyOf, Tryd.f64, SA]
  have hkd : EE 98 [S [x]] = some (.v (.int .u8 97)) := by rw [l7Kind_ev, kind_a hx]; rfl
  have hpu := push_br h (leafI x)
  have hok := in3 (pushR_ok ho.ha ho.aS (encN_len (leafI x)) (encN_closed _)) ho.hb ho.hc
  cases hd : isDig x
  · have e : leafI x = .var x := by simp [leafI, hd]
    rw [e] at hpu hok ⊢
    simp only [hkd, l1In_ev, in_dig, wrap_u8, hd, IA, PA, RA0, RA1, RA2, RA3, RA4, RA5, RA6, RA7, RA8, RA9, RA10, Nat.reduceAdd, Nat.reduceMul, Nat.reduceEqDiff, Nat.reduceLeDiff, Nat.reduceLT, Int.reduceToNat, Int.reduceLT, Int.reduceLE, Int.reduceEq, Int.reduceNeg, Int.reduceAdd, Int.reduceSub, Int.reduceMul, reduceIte]
    simp only [encN] at hpu
    rw [call_ob_eq (os' := [pushR a (encN (.var x)), b, c]) (by rfl) hσ hR.leaf hn (by rfl) (by exact hpu) hok (by rfl) (Nat.le_of_ble_eq_true rfl)]
    generalize hτ : aftS _ _ _ _ _ _ = τ
    obtain ⟨ds', L', f1, f2, f3, f4, f5⟩ := aft_of hτ hok (by omega)
    clear hτ
    simp only [f1, IA, PA, RA0, RA1, RA2, RA3, RA4, RA5, RA6, RA7, RA8, RA9, RA10, Nat.reduceAdd, Nat.reduceMul, Nat.reduceEqDiff, Nat.reduceLeDiff, Nat.reduceLT, Int.reduceToNat, Int.reduceLT, Int.reduceLE, Int.reduceEq, Int.reduceNeg, Int.reduceAdd, Int.reduceSub, Int.reduceMul, reduceIte]
    refine out_rows_one (ds := ds') (ps := [rsV (pushR a (encN (.var x))), rsV b, rsV c]) (L := L') ?_ (by rfl) (by exact f1) f2.leaf f3 (by rfl)
    simp only [IA, PA, RA0, RA1, RA2, RA3, RA4, RA5, RA6, RA7, RA8, RA9, RA10, Nat.reduceAdd, Nat.reduceMul, Nat.reduceEqDiff, Nat.reduceLeDiff, Nat.reduceLT, Int.reduceToNat, Int.reduceLT, Int.reduceLE, Int.reduceEq, Int.reduceNeg, Int.reduceAdd, Int.reduceSub, Int.reduceMul, reduceIte]
  · have e : leafI x = .dig x := by simp [leafI, hd]
    rw [e] at hpu hok ⊢
    simp only [hkd, l1In_ev, in_dig, wrap_u8, hd, IA, PA, RA0, RA1, RA2, RA3, RA4, RA5, RA6, RA7, RA8, RA9, RA10, Nat.reduceAdd, Nat.reduceMul, Nat.reduceEqDiff, Nat.reduceLeDiff, Nat.reduceLT, Int.reduceToNat, Int.reduceLT, Int.reduceLE, Int.reduceEq, Int.reduceNeg, Int.reduceAdd, Int.reduceSub, Int.reduceMul, reduceIte]
    simp only [encN] at hpu
    rw [call_ob_eq (os' := [pushR a (encN (.dig x)), b, c]) (by rfl) hσ hR.leaf hn (by rfl) (by exact hpu) hok (by rfl) (Nat.le_of_ble_eq_true rfl)]
    generalize hτ : aftS _ _ _ _ _ _ = τ
    obtain ⟨ds', L', f1, f2, f3, f4, f5⟩ := aft_of hτ hok (by omega)
    clear hτ
    simp only [f1, IA, PA, RA0, RA1, RA2, RA3, RA4, RA5, RA6, RA7, RA8, RA9, RA10, Nat.reduceAdd, Nat.reduceMul, Nat.reduceEqDiff, Nat.reduceLeDiff, Nat.reduceLT, Int.reduceToNat, Int.reduceLT, Int.reduceLE, Int.reduceEq, Int.reduceNeg, Int.reduceAdd, Int.reduceSub, Int.reduceMul, reduceIte]
    refine out_rows_one (ds := ds') (ps := [rsV (pushR a (encN (.dig x))), rsV b, rsV c]) (L := L') ?_ (by rfl) (by exact f1) f2.leaf f3 (by rfl)
    simp only [IA, PA, RA0, RA1, RA2, RA3, RA4, RA5, RA6, RA7, RA8, RA9, RA10, Nat.reduceAdd, Nat.reduceMul, Nat.reduceEqDiff, Nat.reduceLeDiff, Nat.reduceLT, Int.reduceToNat, Int.reduceLT, Int.reduceLE, Int.reduceEq, Int.reduceNeg, Int.reduceAdd, Int.reduceSub, Int.reduceMul, reduceIte]
theorem do_S {p : PS} {a b c : RS} (h : BR p a b c) (x : UInt8) (hx : isOne x = true) {y : T} {r : List T} (hp : popP p.st (baseP p.lp) = some (y, r)) :
    EE 64 [lent 84 [rsV a, rsV b, rsV c], S [x]] = some (.t [B true, .t [lent 84 [rsV (pushR (popR a (r.reverse.flatMap encN)) (encN (.one x y))), rsV b, rsV c], S [x]]]) := by
  have ho := h.ok
  have hpo := pop_br h hp
  obtain ⟨hs, hle⟩ := popP_some hp
  have h1 := h.popped hs
  have ho1 := h1.ok
  have hpu := push_br h1 (.one x y)
  have hok1 := in3 ho1.ha ho1.hb ho1.hc
  have hok := in3 (pushR_ok ho1.ha ho1.aS (encN_len (.one x y)) (encN_closed _)) ho1.hb ho1.hc
  refine EE_rows (os := [a, b, c]) (xs := [S [x]]) T_do rfl (Nat.le_of_ble_eq_true rfl) (in3 ho.ha ho.hb ho.hc) rfl ?_
  intro ds σ k L hR hn hσ hL hk1 hk
  rw [show opt 64 = [] from rfl]
  simp only [bodyOf, Tryd.f64, SA]
  have hkd : EE 98 [S [x]] = some (.v (.int .u8 83)) := by rw [l7Kind_ev, kind_S hx]; rfl
  simp only [hkd, IA, PA, RA0, RA1, RA2, RA3, RA4, RA5, RA6, RA7, RA8, RA9, RA10, Nat.reduceAdd, Nat.reduceMul, Nat.reduceEqDiff, Nat.reduceLeDiff, Nat.reduceLT, Int.reduceToNat, Int.reduceLT, Int.reduceLE, Int.reduceEq, Int.reduceNeg, Int.reduceAdd, Int.reduceSub, Int.reduceMul, reduceIte]
  rw [call_ob_eq (os' := [popR a (r.reverse.flatMap encN), b, c]) (by rfl) hσ hR.leaf hn (by rfl) (by exact hpo) hok1 (by simp only [closed, closedL, encN_closed, Bool.and_self]) (by simp only [room, closed, closedL, encN_closed, Bool.and_self]; exact Nat.le_of_ble_eq_true rfl)]
  generalize hτ : aftS _ _ _ _ _ _ = τ
  obtain ⟨ds1, L1, f11, f12, f13, f14, f15⟩ := aft_of hτ hok1 (by omega)
  clear hτ
  simp only [List.length_cons, List.length_nil] at f14
  simp only [f11, TMA, IA, PA, RA0, RA1, RA2, RA3, RA4, RA5, RA6, RA7, RA8, RA9, RA10, Nat.reduceAdd, Nat.reduceMul, Nat.reduceEqDiff, Nat.reduceLeDiff, Nat.reduceLT, Int.reduceToNat, Int.reduceLT, Int.reduceLE, Int.reduceEq, Int.reduceNeg, Int.reduceAdd, Int.reduceSub, Int.reduceMul, reduceIte]
  rw [call_ob_eq (os' := [pushR (popR a (r.reverse.flatMap encN)) (encN (.one x y)), b, c]) (by rfl) (by simp only [upd]; repeat rw [if_neg (by omega)]; exact f11) (f12.frame (fun r hr => by have := f14 r hr; simp only [upd]; repeat rw [if_neg (by omega)])).leaf f13 (by simp only [List.all_cons, List.all_nil, goes, closed, closedL, closedL_append, encN_closed, Bool.and_self]) (by exact hpu) hok (by rfl) ((Nat.le_of_ble_eq_true rfl))]
  generalize hτ2 : aftS _ _ _ _ _ _ = τ2
  obtain ⟨ds2, L2, f21, f22, f23, f24, f25⟩ := aft_of hτ2 hok (by omega)
  clear hτ2
  simp only [List.length_cons, List.length_nil] at f24
  simp only [f21, TMA, IA, PA, RA0, RA1, RA2, RA3, RA4, RA5, RA6, RA7, RA8, RA9, RA10, Nat.reduceAdd, Nat.reduceMul, Nat.reduceEqDiff, Nat.reduceLeDiff, Nat.reduceLT, Int.reduceToNat, Int.reduceLT, Int.reduceLE, Int.reduceEq, Int.reduceNeg, Int.reduceAdd, Int.reduceSub, Int.reduceMul, reduceIte]
  refine out_rows_one (x := B true) (ds := ds2) (ps := [rsV (pushR (popR a (r.reverse.flatMap encN)) (encN (.one x y))), rsV b, rsV c]) (L := L2) ?_ (by rfl) (by exact f21) f22.leaf f23 (by rfl)
  simp only [IA, PA, RA0, RA1, RA2, RA3, RA4, RA5, RA6, RA7, RA8, RA9, RA10, Nat.reduceAdd, Nat.reduceMul, Nat.reduceEqDiff, Nat.reduceLeDiff, Nat.reduceLT, Int.reduceToNat, Int.reduceLT, Int.reduceLE, Int.reduceEq, Int.reduceNeg, Int.reduceAdd, Int.reduceSub, Int.reduceMul, reduceIte]
theorem do_S_no {p : PS} {a b c : RS} (h : BR p a b c) (x : UInt8) (hx : isOne x = true) (hb : baseP p.lp < 1000000000) (hp : popP p.st (baseP p.lp) = none) :
    EE 64 [lent 84 [rsV a, rsV b, rsV c], S [x]] = some (.t [B false, .t [lent 84 [rsV (pushR a [U x, U 0, .s true 1 zeroN]), rsV b, rsV c], S [x]]]) := by
  have ho := h.ok
  have hpo := pop_br_none h hb hp
  have hc3 : ([U x, U 0, .s true 1 zeroN] : List AV).length = 3 := rfl
  have hcc : closedL [U x, U 0, .s true 1 zeroN] = true := rfl
  have hpu := push_ok a b c ho [U x, U 0, .s true 1 zeroN] hc3 rfl hcc
  have hok1 := in3 ho.ha ho.hb ho.hc
  have hok := in3 (pushR_ok ho.ha ho.aS hc3 hcc) ho.hb ho.hc
  refine EE_rows (os := [a, b, c]) (xs := [S [x]]) T_do rfl (Nat.le_of_ble_eq_true rfl) (in3 ho.ha ho.hb ho.hc) rfl ?_
  intro ds σ k L hR hn hσ hL hk1 hk
  rw [show opt 64 = [] from rfl]
  simp only [bodyOf, Tryd.f64, SA]
  have hkd : EE 98 [S [x]] = some (.v (.int .u8 83)) := by rw [l7Kind_ev, kind_S hx]; rfl
  simp only [hkd, IA, PA, RA0, RA1, RA2, RA3, RA4, RA5, RA6, RA7, RA8, RA9, RA10, Nat.reduceAdd, Nat.reduceMul, Nat.reduceEqDiff, Nat.reduceLeDiff, Nat.reduceLT, Int.reduceToNat, Int.reduceLT, Int.reduceLE, Int.reduceEq, Int.reduceNeg, Int.reduceAdd, Int.reduceSub, Int.reduceMul, reduceIte]
  rw [call_ob_eq (os' := [a, b, c]) (by rfl) hσ hR.leaf hn (by rfl) (by exact hpo) hok1 (by rfl) (by simp only [room, closed, closedL, zeroN, Bool.and_self]; exact Nat.le_of_ble_eq_true rfl)]
  generalize hτ : aftS _ _ _ _ _ _ = τ
  obtain ⟨ds1, L1, f11, f12, f13, f14, f15⟩ := aft_of hτ hok1 (by omega)
  clear hτ
  simp only [List.length_cons, List.length_nil] at f14
  simp only [f11, zeroN, TMA, IA, PA, RA0, RA1, RA2, RA3, RA4, RA5, RA6, RA7, RA8, RA9, RA10, Nat.reduceAdd, Nat.reduceMul, Nat.reduceEqDiff, Nat.reduceLeDiff, Nat.reduceLT, Int.reduceToNat, Int.reduceLT, Int.reduceLE, Int.reduceEq, Int.reduceNeg, Int.reduceAdd, Int.reduceSub, Int.reduceMul, reduceIte]
  rw [call_ob_eq (os' := [pushR a [U x, U 0, .s true 1 zeroN], b, c]) (by rfl) (by simp only [upd]; repeat rw [if_neg (by omega)]; exact f11) (f12.frame (fun r hr => by have := f14 r hr; simp only [upd]; repeat rw [if_neg (by omega)])).leaf f13 (by rfl) (by exact hpu) hok (by rfl) ((Nat.le_of_ble_eq_true rfl))]
  generalize hτ2 : aftS _ _ _ _ _ _ = τ2
  obtain ⟨ds2, L2, f21, f22, f23, f24, f25⟩ := aft_of hτ2 hok (by omega)
  clear hτ2
  simp only [List.length_cons, List.length_nil] at f24
  simp only [f21, TMA, IA, PA, RA0, RA1, RA2, RA3, RA4, RA5, RA6, RA7, RA8, RA9, RA10, Nat.reduceAdd, Nat.reduceMul, Nat.reduceEqDiff, Nat.reduceLeDiff, Nat.reduceLT, Int.reduceToNat, Int.reduceLT, Int.reduceLE, Int.reduceEq, Int.reduceNeg, Int.reduceAdd, Int.reduceSub, Int.reduceMul, reduceIte]
  refine out_rows_one (x := B false) (ds := ds2) (ps := [rsV (pushR a [U x, U 0, .s true 1 zeroN]), rsV b, rsV c]) (L := L2) ?_ (by rfl) (by exact f21) f22.leaf f23 (by rfl)
  simp only [IA, PA, RA0, RA1, RA2, RA3, RA4, RA5, RA6, RA7, RA8, RA9, RA10, Nat.reduceAdd, Nat.reduceMul, Nat.reduceEqDiff, Nat.reduceLeDiff, Nat.reduceLT, Int.reduceToNat, Int.reduceLT, Int.reduceLE, Int.reduceEq, Int.reduceNeg, Int.reduceAdd, Int.reduceSub, Int.reduceMul, reduceIte]
theorem do_2 {p : PS} {a b c : RS} (h : BR p a b c) (x : UInt8) (hx : isTwo x = true) {y z : T} {r r2 : List T} (hp : popP p.st (baseP p.lp) = some (y, r)) (hq : popP r (baseP p.lp) = some (z, r2)) :
    EE 64 [lent 84 [rsV a, rsV b, rsV c], S [x]] = some (.t [B true, .t [lent 84 [rsV (pushR (popR (popR a (r.reverse.flatMap encN)) (r2.reverse.flatMap encN)) (encN (.two x z y))), rsV b, rsV c], S [x]]]) := by
  have ho := h.ok
  have hpo := pop_br h hp
  obtain ⟨hs, hle⟩ := popP_some hp
  have h1 := h.popped hs
  have ho1 := h1.ok
  have hpo2 := pop_br h1 hq
  obtain ⟨hs2, hle2⟩ := popP_some hq
  have h2 := h1.popped hs2
  have ho2 := h2.ok
  have hpu := push_br h2 (.two x z y)
  have hok1 := in3 ho1.ha ho1.hb ho1.hc
  have hok2 := in3 ho2.ha ho2.hb ho2.hc
  have hok := in3 (pushR_ok ho2.ha ho2.aS (encN_len (.two x z y)) (encN_closed _)) ho2.hb ho2.hc
  refine EE_rows (os := [a, b, c]) (xs := [S [x]]) T_do rfl (Nat.le_of_ble_eq_true rfl) (in3 ho.ha ho.hb ho.hc) rfl ?_
  intro ds σ k L hR hn hσ hL hk1 hk
  rw [show opt 64 = [] from rfl]
  simp only [bodyOf, Tryd.f64, SA]
  have hkd : EE 98 [S [x]] = some (.v (.int .u8 43)) := by rw [l7Kind_ev, kind_2 hx]; rfl
  simp only [hkd, IA, PA, RA0, RA1, RA2, RA3, RA4, RA5, RA6, RA7, RA8, RA9, RA10, Nat.reduceAdd, Nat.reduceMul, Nat.reduceEqDiff, Nat.reduceLeDiff, Nat.reduceLT, Int.reduceToNat, Int.reduceLT, Int.reduceLE, Int.reduceEq, Int.reduceNeg, Int.reduceAdd, Int.reduceSub, Int.reduceMul, reduceIte]
  rw [call_ob_eq (os' := [popR a (r.reverse.flatMap encN), b, c]) (by rfl) hσ hR.leaf hn (by rfl) (by exact hpo) hok1 (by simp only [closed, closedL, encN_closed, Bool.and_self]) (by simp only [room, closed, closedL, encN_closed, Bool.and_self]; exact Nat.le_of_ble_eq_true rfl)]
  generalize hτ : aftS _ _ _ _ _ _ = τ
  obtain ⟨ds1, L1, f11, f12, f13, f14, f15⟩ := aft_of hτ hok1 (by omega)
  clear hτ
  simp only [List.length_cons, List.length_nil] at f14
  simp only [f11, TMA, IA, PA, RA0, RA1, RA2, RA3, RA4, RA5, RA6, RA7, RA8, RA9, RA10, Nat.reduceAdd, Nat.reduceMul, Nat.reduceEqDiff, Nat.reduceLeDiff, Nat.reduceLT, Int.reduceToNat, Int.reduceLT, Int.reduceLE, Int.reduceEq, Int.reduceNeg, Int.reduceAdd, Int.reduceSub, Int.reduceMul, reduceIte]
  rw [call_ob_eq (os' := [popR (popR a (r.reverse.flatMap encN)) (r2.reverse.flatMap encN), b, c]) (by rfl) (by simp only [upd]; repeat rw [if_neg (by omega)]; exact f11) (f12.frame (fun r hr => by have := f14 r hr; simp only [upd]; repeat rw [if_neg (by omega)])).leaf f13 (by rfl) (by exact hpo2) hok2 (by simp only [closed, closedL, encN_closed, Bool.and_self]) (by simp only [room, closed, closedL, encN_closed, Bool.and_self]; exact Nat.le_of_ble_eq_true rfl)]
  generalize hτ2 : aftS _ _ _ _ _ _ = τ2
  obtain ⟨ds2, L2, f21, f22, f23, f24, f25⟩ := aft_of hτ2 hok2 (by omega)
  clear hτ2
  simp only [List.length_cons, List.length_nil] at f24
  have hbx : τ2 (k + 4 + 8 + 8 + 8 + 8 + 20) = some (.ob 33 (encN y)) := by
    rw [f25 _ (by omega) (fun hm => by have := f14 _ hm; omega) (.inl (by omega)), upd, if_pos rfl]
  have hne : ¬ (k = k + 32) := by omega
  simp only [f21, hbx, hne, TMA, IA, PA, RA0, RA1, RA2, RA3, RA4, RA5, RA6, RA7, RA8, RA9, RA10, Nat.reduceAdd, Nat.reduceMul, Nat.reduceEqDiff, Nat.reduceLeDiff, Nat.reduceLT, Int.reduceToNat, Int.reduceLT, Int.reduceLE, Int.reduceEq, Int.reduceNeg, Int.reduceAdd, Int.reduceSub, Int.reduceMul, reduceIte]
  rw [call_ob_eq (os' := [pushR (popR (popR a (r.reverse.flatMap encN)) (r2.reverse.flatMap encN)) (encN (.two x z y)), b, c]) (by rfl) (by simp only [upd]; repeat rw [if_neg (by omega)]; exact f21) (f22.frame (fun r hr => by have := f24 r hr; simp only [upd]; repeat rw [if_neg (by omega)])).leaf f23 (by simp only [List.all_cons, List.all_nil, goes, closed, closedL, closedL_append, encN_closed, Bool.and_self]) (by exact hpu) hok (by rfl) ((Nat.le_of_ble_eq_true rfl))]
  generalize hτ3 : aftS _ _ _ _ _ _ = τ3
  obtain ⟨ds3, L3, f31, f32, f33, f34, f35⟩ := aft_of hτ3 hok (by omega)
  clear hτ3
  simp only [List.length_cons, List.length_nil] at f34
  simp only [f31, TMA, IA, PA, RA0, RA1, RA2, RA3, RA4, RA5, RA6, RA7, RA8, RA9, RA10, Nat.reduceAdd, Nat.reduceMul, Nat.reduceEqDiff, Nat.reduceLeDiff, Nat.reduceLT, Int.reduceToNat, Int.reduceLT, Int.reduceLE, Int.reduceEq, Int.reduceNeg, Int.reduceAdd, Int.reduceSub, Int.reduceMul, reduceIte]
  refine out_rows_one (x := B true) (ds := ds3) (ps := [rsV (pushR (popR (popR a (r.reverse.flatMap encN)) (r2.reverse.flatMap encN)) (encN (.two x z y))), rsV b, rsV c]) (L := L3) ?_ (by rfl) (by exact f31) f32.leaf f33 (by rfl)
  simp only [IA, PA, RA0, RA1, RA2, RA3, RA4, RA5, RA6, RA7, RA8, RA9, RA10, Nat.reduceAdd, Nat.reduceMul, Nat.reduceEqDiff, Nat.reduceLeDiff, Nat.reduceLT, Int.reduceToNat, Int.reduceLT, Int.reduceLE, Int.reduceEq, Int.reduceNeg, Int.reduceAdd, Int.reduceSub, Int.reduceMul, reduceIte]
theorem do_2_no {p : PS} {a b c : RS} (h : BR p a b c) (x : UInt8) (hx : isTwo x = true) (hb : baseP p.lp < 1000000000) (hp : popP p.st (baseP p.lp) = none) :
    EE 64 [lent 84 [rsV a, rsV b, rsV c], S [x]] = some (.t [B false, .t [lent 84 [rsV (pushR a [U x, U 0, .s true 2 (zeroN ++ zeroN)]), rsV b, rsV c], S [x]]]) := by
  have ho := h.ok
  have hpo := pop_br_none h hb hp
  have hc3 : ([U x, U 0, .s true 2 (zeroN ++ zeroN)] : List AV).length = 3 := rfl
  have hcc : closedL [U x, U 0, .s true 2 (zeroN ++ zeroN)] = true := rfl
  have hpu := push_ok a b c ho [U x, U 0, .s true 2 (zeroN ++ zeroN)] hc3 rfl hcc
  have hok1 := in3 ho.ha ho.hb ho.hc
  have hok := in3 (pushR_ok ho.ha ho.aS hc3 hcc) ho.hb ho.hc
  refine EE_rows (os := [a, b, c]) (xs := [S [x]]) T_do rfl (Nat.le_of_ble_eq_true rfl) (in3 ho.ha ho.hb ho.hc) rfl ?_
  intro ds σ k L hR hn hσ hL hk1 hk
  rw [show opt 64 = [] from rfl]
  simp only [bodyOf, Tryd.f64, SA]
  have hkd : EE 98 [S [x]] = some (.v (.int .u8 43)) := by rw [l7Kind_ev, kind_2 hx]; rfl
  simp only [hkd, IA, PA, RA0, RA1, RA2, RA3, RA4, RA5, RA6, RA7, RA8, RA9, RA10, Nat.reduceAdd, Nat.reduceMul, Nat.reduceEqDiff, Nat.reduceLeDiff, Nat.reduceLT, Int.reduceToNat, Int.reduceLT, Int.reduceLE, Int.reduceEq, Int.reduceNeg, Int.reduceAdd, Int.reduceSub, Int.reduceMul, reduceIte]
  rw [call_ob_eq (os' := [a, b, c]) (by rfl) hσ hR.leaf hn (by rfl) (by exact hpo) hok1 (by rfl) (by simp only [room, closed, closedL, zeroN, Bool.and_self]; exact Nat.le_of_ble_eq_true rfl)]
  generalize hτ : aftS _ _ _ _ _ _ = τ
  obtain ⟨ds1, L1, f11, f12, f13, f14, f15⟩ := aft_of hτ hok1 (by omega)
  clear hτ
  simp only [List.length_cons, List.length_nil] at f14
  simp only [f11, zeroN, TMA, IA, PA, RA0, RA1, RA2, RA3, RA4, RA5, RA6, RA7, RA8, RA9, RA10, Nat.reduceAdd, Nat.reduceMul, Nat.reduceEqDiff, Nat.reduceLeDiff, Nat.reduceLT, Int.reduceToNat, Int.reduceLT, Int.reduceLE, Int.reduceEq, Int.reduceNeg, Int.reduceAdd, Int.reduceSub, Int.reduceMul, reduceIte]
  rw [call_ob_eq (os' := [a, b, c]) (by rfl) (by simp only [upd]; repeat rw [if_neg (by omega)]; exact f11) (f12.frame (fun r hr => by have := f14 r hr; simp only [upd]; repeat rw [if_neg (by omega)])).leaf f13 (by rfl) (by exact hpo) hok1 (by rfl) (by simp only [room, closed, closedL, zeroN, Bool.and_self]; exact Nat.le_of_ble_eq_true rfl)]
  generalize hτ2 : aftS _ _ _ _ _ _ = τ2
  obtain ⟨ds2, L2, f21, f22, f23, f24, f25⟩ := aft_of hτ2 hok1 (by omega)
  clear hτ2
  simp only [List.length_cons, List.length_nil] at f24
  have hbx : τ2 (k + 4 + 8 + 8 + 8 + 8 + 20) = some (.ob 33 ([U 0, U 0, .s true 0 []])) := by
    rw [f25 _ (by omega) (fun hm => by have := f14 _ hm; omega) (.inl (by omega)), upd, if_pos rfl]
  have hne : ¬ (k = k + 32) := by omega
  simp only [f21, hbx, hne, zeroN, TMA, IA, PA, RA0, RA1, RA2, RA3, RA4, RA5, RA6, RA7, RA8, RA9, RA10, Nat.reduceAdd, Nat.reduceMul, Nat.reduceEqDiff, Nat.reduceLeDiff, Nat.reduceLT, Int.reduceToNat, Int.reduceLT, Int.reduceLE, Int.reduceEq, Int.reduceNeg, Int.reduceAdd, Int.reduceSub, Int.reduceMul, reduceIte]
  rw [call_ob_eq (os' := [pushR a [U x, U 0, .s true 2 (zeroN ++ zeroN)], b, c]) (by rfl) (by simp only [upd]; repeat rw [if_neg (by omega)]; exact f21) (f22.frame (fun r hr => by have := f24 r hr; simp only [upd]; repeat rw [if_neg (by omega)])).leaf f23 (by rfl) (by exact hpu) hok (by rfl) ((Nat.le_of_ble_eq_true rfl))]
  generalize hτ3 : aftS _ _ _ _ _ _ = τ3
  obtain ⟨ds3, L3, f31, f32, f33, f34, f35⟩ := aft_of hτ3 hok (by omega)
  clear hτ3
  simp only [List.length_cons, List.length_nil] at f34
  simp only [f31, TMA, IA, PA, RA0, RA1, RA2, RA3, RA4, RA5, RA6, RA7, RA8, RA9, RA10, Nat.reduceAdd, Nat.reduceMul, Nat.reduceEqDiff, Nat.reduceLeDiff, Nat.reduceLT, Int.reduceToNat, Int.reduceLT, Int.reduceLE, Int.reduceEq, Int.reduceNeg, Int.reduceAdd, Int.reduceSub, Int.reduceMul, reduceIte]
  refine out_rows_one (x := B false) (ds := ds3) (ps := [rsV (pushR a [U x, U 0, .s true 2 (zeroN ++ zeroN)]), rsV b, rsV c]) (L := L3) ?_ (by rfl) (by exact f31) f32.leaf f33 (by rfl)
  simp only [IA, PA, RA0, RA1, RA2, RA3, RA4, RA5, RA6, RA7, RA8, RA9, RA10, Nat.reduceAdd, Nat.reduceMul, Nat.reduceEqDiff, Nat.reduceLeDiff, Nat.reduceLT, Int.reduceToNat, Int.reduceLT, Int.reduceLE, Int.reduceEq, Int.reduceNeg, Int.reduceAdd, Int.reduceSub, Int.reduceMul, reduceIte]
theorem do_2_no2 {p : PS} {a b c : RS} (h : BR p a b c) (x : UInt8) (hx : isTwo x = true) {y : T} {r : List T} (hb : baseP p.lp < 1000000000) (hp : popP p.st (baseP p.lp) = some (y, r)) (hq : popP r (baseP p.lp) = none) :
    EE 64 [lent 84 [rsV a, rsV b, rsV c], S [x]] = some (.t [B false, .t [lent 84 [rsV (pushR (popR a (r.reverse.flatMap encN)) [U x, U 0, .s true 2 (zeroN ++ encN y)]), rsV b, rsV c], S [x]]]) := by
  have ho := h.ok
  have hpo := pop_br h hp
  obtain ⟨hs, hle⟩ := popP_some hp
  have h1 := h.popped hs
  have ho1 := h1.ok
  have hpo2 := pop_br_none h1 hb hq
  have hc3 : ([U x, U 0, .s true 2 (zeroN ++ encN y)] : List AV).length = 3 := rfl
  have hcc : closedL [U x, U 0, .s true 2 (zeroN ++ encN y)] = true := by simp only [closed, closedL, zeroN, closedL_append, encN_closed, Bool.and_self]
  have hpu := push_ok _ b c ho1 [U x, U 0, .s true 2 (zeroN ++ encN y)] hc3 rfl hcc
  have hok1 := in3 ho1.ha ho1.hb ho1.hc
  have hok := in3 (pushR_ok ho1.ha ho1.aS hc3 hcc) ho1.hb ho1.hc
  refine EE_rows (os := [a, b, c]) (xs := [S [x]]) T_do rfl (Nat.le_of_ble_eq_true rfl) (in3 ho.ha ho.hb ho.hc) rfl ?_
  intro ds σ k L hR hn hσ hL hk1 hk
  rw [show opt 64 = [] from rfl]
  simp only [bodyOf, Tryd.f64, SA]
  have hkd : EE 98 [S [x]] = some (.v (.int .u8 43)) := by rw [l7Kind_ev, kind_2 hx]; rfl
  simp only [hkd, IA, PA, RA0, RA1, RA2, RA3, RA4, RA5, RA6, RA7, RA8, RA9, RA10, Nat.reduceAdd, Nat.reduceMul, Nat.reduceEqDiff, Nat.reduceLeDiff, Nat.reduceLT, Int.reduceToNat, Int.reduceLT, Int.reduceLE, Int.reduceEq, Int.reduceNeg, Int.reduceAdd, Int.reduceSub, Int.reduceMul, reduceIte]
  rw [call_ob_eq (os' := [popR a (r.reverse.flatMap encN), b, c]) (by rfl) hσ hR.leaf hn (by rfl) (by exact hpo) hok1 (by simp only [closed, closedL, encN_closed, Bool.and_self]) (by simp only [room, closed, closedL, encN_closed, Bool.and_self]; exact Nat.le_of_ble_eq_true rfl)]
  generalize hτ : aftS _ _ _ _ _ _ = τ
  obtain ⟨ds1, L1, f11, f12, f13, f14, f15⟩ := aft_of hτ hok1 (by omega)
  clear hτ
  simp only [List.length_cons, List.length_nil] at f14
  simp only [f11, TMA, IA, PA, RA0, RA1, RA2, RA3, RA4, RA5, RA6, RA7, RA8, RA9, RA10, Nat.reduceAdd, Nat.reduceMul, Nat.reduceEqDiff, Nat.reduceLeDiff, Nat.reduceLT, Int.reduceToNat, Int.reduceLT, Int.reduceLE, Int.reduceEq, Int.reduceNeg, Int.reduceAdd, Int.reduceSub, Int.reduceMul, reduceIte]
  rw [call_ob_eq (os' := [popR a (r.reverse.flatMap encN), b, c]) (by rfl) (by simp only [upd]; repeat rw [if_neg (by omega)]; exact f11) (f12.frame (fun r hr => by have := f14 r hr; simp only [upd]; repeat rw [if_neg (by omega)])).leaf f13 (by rfl) (by exact hpo2) hok1 (by rfl) (by simp only [room, closed, closedL, zeroN, Bool.and_self]; exact Nat.le_of_ble_eq_true rfl)]
  generalize hτ2 : aftS _ _ _ _ _ _ = τ2
  obtain ⟨ds2, L2, f21, f22, f23, f24, f25⟩ := aft_of hτ2 hok1 (by omega)
  clear hτ2
  simp only [List.length_cons, List.length_nil] at f24
  have hbx : τ2 (k + 4 + 8 + 8 + 8 + 8 + 20) = some (.ob 33 (encN y)) := by
    rw [f25 _ (by omega) (fun hm => by have := f14 _ hm; omega) (.inl (by omega)), upd, if_pos rfl]
  have hne : ¬ (k = k + 32) := by omega
  simp only [f21, hbx, hne, zeroN, TMA, IA, PA, RA0, RA1, RA2, RA3, RA4, RA5, RA6, RA7, RA8, RA9, RA10, Nat.reduceAdd, Nat.reduceMul, Nat.reduceEqDiff, Nat.reduceLeDiff, Nat.reduceLT, Int.reduceToNat, Int.reduceLT, Int.reduceLE, Int.reduceEq, Int.reduceNeg, Int.reduceAdd, Int.reduceSub, Int.reduceMul, reduceIte]
  rw [call_ob_eq (os' := [pushR (popR a (r.reverse.flatMap encN)) [U x, U 0, .s true 2 (zeroN ++ encN y)], b, c]) (by rfl) (by simp only [upd]; repeat rw [if_neg (by omega)]; exact f21) (f22.frame (fun r hr => by have := f24 r hr; simp only [upd]; repeat rw [if_neg (by omega)])).leaf f23 (by simp only [List.all_cons, List.all_nil, goes, zeroN, closed, closedL, closedL_append, encN_closed, Bool.and_self]) (by exact hpu) hok (by rfl) ((Nat.le_of_ble_eq_true rfl))]
  generalize hτ3 : aftS _ _ _ _ _ _ = τ3
  obtain ⟨ds3, L3, f31, f32, f33, f34, f35⟩ := aft_of hτ3 hok (by omega)
  clear hτ3
  simp only [List.length_cons, List.length_nil] at f34
  simp only [f31, TMA, IA, PA, RA0, RA1, RA2, RA3, RA4, RA5, RA6, RA7, RA8, RA9, RA10, Nat.reduceAdd, Nat.reduceMul, Nat.reduceEqDiff, Nat.reduceLeDiff, Nat.reduceLT, Int.reduceToNat, Int.reduceLT, Int.reduceLE, Int.reduceEq, Int.reduceNeg, Int.reduceAdd, Int.reduceSub, Int.reduceMul, reduceIte]
  refine out_rows_one (x := B false) (ds := ds3) (ps := [rsV (pushR (popR a (r.reverse.flatMap encN)) [U x, U 0, .s true 2 (zeroN ++ encN y)]), rsV b, rsV c]) (L := L3) ?_ (by rfl) (by exact f31) f32.leaf f33 (by rfl)
  simp only [IA, PA, RA0, RA1, RA2, RA3, RA4, RA5, RA6, RA7, RA8, RA9, RA10, Nat.reduceAdd, Nat.reduceMul, Nat.reduceEqDiff, Nat.reduceLeDiff, Nat.reduceLT, Int.reduceToNat, Int.reduceLT, Int.reduceLE, Int.reduceEq, Int.reduceNeg, Int.reduceAdd, Int.reduceSub, Int.reduceMul, reduceIte]
end
end Go.Proofs.YtkilalabmbdmkaaDoor.Ev

/-
Code: the reference's builder at the beginning of a loop.
-/
namespace Go.Proofs.YtkilalabmbdmkaaDoor.Ev
section
set_option linter.unusedVariables false
set_option linter.unusedSimpArgs false
open Go Go.RowKit
set_option linter.unusedVariables false
set_option linter.unusedSimpArgs false
theorem kind_beg {a v : UInt8} (h : a = 91 ∨ a = 123) (hv : isLV v = true) : kindM [a, v] = 91 := by
  rcases h with rfl | rfl <;> simp [kindM, hv]
def begR (b : RS) (E : Nat) (x : AV) : RS := ⟨true, E, 1, b.n + 1, b.cs ++ [x]⟩
theorem begR_ok {b : RS} {E : Nat} {x : AV} (h : rsOk b) (hs : b.sz = 1) (hc : closed x = true) : rsOk (begR b E x) := by
  refine ⟨?_, ?_, fun hh => by cases hh⟩
  · have := h.1
    rw [hs] at this
    simp only [begR, List.length_append, this, List.length_cons, List.length_nil]; omega
  · simp only [begR, closedL_append, h.2.1, closedL, hc, Bool.and_self]
theorem app_other {σ : Sto} {o : RS} {d : AV} {L : List Nat} (h : Rw σ o d L) {key E sz n : Nat} {cs : List AV} {i : Nat} (h1 : i ≠ key) (h2 : i ∉ L) : appSto σ key E sz d n cs i = σ i := by
  refine appSto_other h1 fun id lo k hd he => ?_
  obtain ⟨h0, ⟨hb, rfl, rfl⟩ | ⟨r, hb, rfl, rfl, hσ⟩⟩ := h
  · cases hd
  · cases hd
    exact h2 (by simp [he])
theorem do_beg {p : PS} {a b c : RS} (h : BR p a b c) (x v : UInt8) (hx : x = 91 ∨ x = 123) (hv : isLV v = true) (hlt : baseP p.lp < p.st.length) :
    EE 64 [lent 84 [rsV a, rsV b, rsV c], S [x, v]] = some (.t [B true, .t [lent 84 [rsV a, rsV (begR b 9 (S [x, v])), rsV (begR c 3 (N p.st.length))], S [x, v]]]) := by
  have ho := h.ok
  have hba := h.base
  have han := h.an
  have hcn := h.cn
  refine EE_rows (os := [a, b, c]) (xs := [S [x, v]]) T_do rfl (Nat.le_of_ble_eq_true rfl) (in3 ho.ha ho.hb ho.hc) rfl ?_
  intro ds σ k L hR hn hσ hL hk1 hk
  obtain ⟨da, db, dc, La, Lb, Lc, rfl, rfl, ra, rb, rc⟩ := rw3 hR
  rw [show opt 64 = [] from rfl]
  simp only [bodyOf, Tryd.f64, SA]
  have hkd : EE 98 [S [x, v]] = some (.v (.int .u8 91)) := by rw [l7Kind_ev, kind_beg hx hv]; rfl
  simp only [hkd, hσ, len_rw rc, IA, PA, RA0, RA1, RA2, RA3, RA4, RA5, RA6, RA7, RA8, RA9, RA10, Nat.reduceAdd, Nat.reduceMul, Nat.reduceEqDiff, Nat.reduceLeDiff, Nat.reduceLT, Int.reduceToNat, Int.reduceLT, Int.reduceLE, Int.reduceEq, Int.reduceNeg, Int.reduceAdd, Int.reduceSub, Int.reduceMul, reduceIte]
  rcases hba with ⟨hc0, hb0⟩ | ⟨hc0, pre, hcs, hpl⟩
  · have hlc : ¬ ((0 : Int) < (c.n : Int)) := by omega
    have hla : ¬ ((a.n : Int) ≤ 0) := by omega
    simp only [hlc, hla, hσ, len_rw ra, RR, IA, PA, RA0, RA1, RA2, RA3, RA4, RA5, RA6, RA7, RA8, RA9, RA10, Nat.reduceAdd, Nat.reduceMul, Nat.reduceEqDiff, Nat.reduceLeDiff, Nat.reduceLT, Int.reduceToNat, Int.reduceLT, Int.reduceLE, Int.reduceEq, Int.reduceNeg, Int.reduceAdd, Int.reduceSub, Int.reduceMul, reduceIte]
    have hlb := rb.lst (nx := k) fun r hr => (hL r (by simp [hr])).2
    rw [ho.bE, ho.bS] at hlb
    have hbn := ho.bn
    have hcn' := ho.cn
    have han' := ho.an
    rw [lst_app hlb (by decide) (by rfl) (by rfl) (by decide) (by omega) (by omega) (by omega)]
    generalize hτ : appSto _ _ _ _ db _ _ = τ
    have t1 := (congrFun hτ _).symm.trans (appSto_key ..)
    have t2 : ∀ i, i ≠ _ → i ∉ Lb → τ i = σ i := fun i h1 h2 => (congrFun hτ i).symm.trans (app_other rb h1 h2)
    clear hτ
    have hnd := List.nodup_cons.1 hn
    have hnd2 := List.nodup_append.1 hnd.2
    have hnd3 := List.nodup_append.1 hnd2.2.1
    have h0b : 0 ∉ Lb := fun hr => hnd.1 (by simp [hr])
    have hab : ∀ r ∈ La, r ∉ Lb := fun r hr hr2 => hnd2.2.2 r hr r (by simp [hr2]) rfl
    have hcb : ∀ r ∈ Lc, r ∉ Lb := fun r hr hr2 => hnd3.2.2 r hr2 r hr rfl
    have hac : ∀ r ∈ La, r ∉ Lc := fun r hr hr2 => hnd2.2.2 r hr r (by simp [hr2]) rfl
    have hLa : ∀ r ∈ La, 1 ≤ r ∧ r < k := fun r hr => hL r (by simp [hr])
    have hLc : ∀ r ∈ Lc, 1 ≤ r ∧ r < k := fun r hr => hL r (by simp [hr])
    have t3 : τ 0 = some (.ob 84 [da, db, dc]) := by rw [t2 0 (by omega) h0b, hσ]
    have rc2 : ∀ X, Rw (upd τ 0 X) c dc Lc := fun X => rc.frame fun r hr => by
      have := hLc r hr
      rw [upd, if_neg (by omega), t2 r (by omega) (hcb r hr)]
    have ra2 : ∀ X, Rw (upd τ 0 X) a da La := fun X => ra.frame fun r hr => by
      have := hLa r hr
      rw [upd, if_neg (by omega), t2 r (by omega) (hab r hr)]
    simp only [t1, t3, len_rw (rc2 _), len_rw (ra2 _), RR, IA, PA, RA0, RA1, RA2, RA3, RA4, RA5, RA6, RA7, RA8, RA9, RA10, Nat.reduceAdd, Nat.reduceMul, Nat.reduceEqDiff, Nat.reduceLeDiff, Nat.reduceLT, Int.reduceToNat, Int.reduceLT, Int.reduceLE, Int.reduceEq, Int.reduceNeg, Int.reduceAdd, Int.reduceSub, Int.reduceMul, reduceIte]
    have hlc2 := (rc2 (some (.ob 84 [da, .w (k + 4 + 8 + 8 + 8 + 8 + 8 + 4 + 24 + 28 + 28) 0 (b.n + 1), dc]))).lst (nx := k) fun r hr => (hLc r hr).2
    rw [ho.cE, ho.cS] at hlc2
    rw [lst_app hlc2 (by decide) (by rfl) (by rfl) (by decide) (by omega) (by omega) (by omega)]
    generalize hτ2 : appSto _ _ _ _ dc _ _ = τ2
    have u1 := (congrFun hτ2 _).symm.trans (appSto_key ..)
    have u2 : ∀ i, i ≠ _ → i ∉ Lc → τ2 i = _ := fun i h1 h2 => (congrFun hτ2 i).symm.trans (app_other (rc2 _) h1 h2)
    clear hτ2
    have h0c : 0 ∉ Lc := fun hr => hnd.1 (by simp [hr])
    have hkc : k + 4 + 8 + 8 + 8 + 8 + 8 + 4 + 24 + 28 + 28 ∉ Lc := fun hr => by have := hLc _ hr; omega
    have u3 : τ2 0 = some (.ob 84 [da, .w (k + 4 + 8 + 8 + 8 + 8 + 8 + 4 + 24 + 28 + 28) 0 (b.n + 1), dc]) := by rw [u2 0 (by omega) h0c, upd, if_pos rfl]
    have u4 := u2 (k + 4 + 8 + 8 + 8 + 8 + 8 + 4 + 24 + 28 + 28) (by omega) hkc
    rw [upd, if_neg (by omega), t1] at u4
    simp only [u1, u3, RR, IA, PA, RA0, RA1, RA2, RA3, RA4, RA5, RA6, RA7, RA8, RA9, RA10, Nat.reduceAdd, Nat.reduceMul, Nat.reduceEqDiff, Nat.reduceLeDiff, Nat.reduceLT, Int.reduceToNat, Int.reduceLT, Int.reduceLE, Int.reduceEq, Int.reduceNeg, Int.reduceAdd, Int.reduceSub, Int.reduceMul, reduceIte]
    refine out_rows_one (ds := [da, .w (k + 4 + 8 + 8 + 8 + 8 + 8 + 4 + 24 + 28 + 28) 0 (b.n + 1), .w (k + 4 + 8 + 8 + 8 + 8 + 8 + 4 + 24 + 28 + 44 + 44) 0 (c.n + 1)]) (ps := [rsV a, rsV (begR b 9 (S [x, v])), rsV (begR c 3 (N p.st.length))]) (L := La ++ ([k + 4 + 8 + 8 + 8 + 8 + 8 + 4 + 24 + 28 + 28] ++ [k + 4 + 8 + 8 + 8 + 8 + 8 + 4 + 24 + 28 + 44 + 44])) ?_ (by rfl) (by rfl) ?_ ?_ (by rfl)
    · simp only [IA, PA, RA0, RA1, RA2, RA3, RA4, RA5, RA6, RA7, RA8, RA9, RA10, Nat.reduceAdd, Nat.reduceMul, Nat.reduceEqDiff, Nat.reduceLeDiff, Nat.reduceLT, Int.reduceToNat, Int.reduceLT, Int.reduceLE, Int.reduceEq, Int.reduceNeg, Int.reduceAdd, Int.reduceSub, Int.reduceMul, reduceIte]
    · refine leaf3 (ra.frame fun r hr => ?_).leaf ?_ ?_
      · have := hLa r hr
        simp only [upd]
        rw [if_neg (by omega), u2 r (by omega) (hac r hr), upd, if_neg (by omega), t2 r (by omega) (hab r hr)]
      · rw [leafP_row (E := 9) (sz := 1) (n := b.n + 1) (cs := b.cs ++ [S [x, v]]) (by simp only [upd]; rw [if_neg (by omega)]; exact u4) (by rw [closedL_append, ho.hb.2.1]; rfl)]
        simp only [rsV, begR, if_true]
      · rw [leafP_row (E := 3) (sz := 1) (n := c.n + 1) (cs := c.cs ++ [N p.st.length]) (by simp only [upd]; rw [if_neg (by omega), u1, han]) (by rw [closedL_append, ho.hc.2.1]; rfl)]
        simp only [rsV, begR, if_true]
    · refine List.nodup_cons.2 ⟨?_, ?_⟩
      · simp only [List.mem_append, List.mem_cons, List.not_mem_nil, or_false, not_or]
        exact ⟨fun hr => by have := hLa _ hr; omega, by omega, by omega⟩
      · refine List.nodup_append.2 ⟨hnd2.1, ?_, ?_⟩
        · simp
        · intro r hr r2 hr2
          have := hLa r hr
          simp only [List.mem_append, List.mem_cons, List.not_mem_nil, or_false] at hr2
          omega
  · have hlc : ((0 : Int) < (c.n : Int)) := by omega
    obtain ⟨rr, hcb', rfl, rfl, hcσ⟩ := rc.pos hc0
    have hwc : IntKind.i64.wrap ((c.n : Int) - 1) = ((c.n - 1 : Nat) : Int) := by
      have := ho.cn
      rw [wrap64 (by omega) (by omega)]; omega
    have hz1 : (0 : Int) ≤ ((c.n - 1 : Nat) : Int) := by omega
    have hz2 : ((c.n - 1 : Nat) : Int) < (c.n : Int) := by omega
    have hhd : (c.cs.drop (c.n - 1)).head? = some (N (baseP p.lp)) := by
      rw [hcs, List.drop_append, List.drop_eq_nil_of_le (by omega), show c.n - 1 - pre.length = 0 by omega]
      rfl
    have hla : ¬ ((a.n : Int) ≤ (baseP p.lp : Int)) := by omega
    simp only [hlc, hcσ, hwc, hz1, hz2, hhd, hla, hσ, ho.cS, Int.toNat_natCast, Nat.mul_one, Nat.zero_add, len_rw ra, RR, IA, PA, RA0, RA1, RA2, RA3, RA4, RA5, RA6, RA7, RA8, RA9, RA10, Nat.reduceAdd, Nat.reduceMul, Nat.reduceEqDiff, Nat.reduceLeDiff, Nat.reduceLT, Int.reduceToNat, Int.reduceLT, Int.reduceLE, Int.reduceEq, Int.reduceNeg, Int.reduceAdd, Int.reduceSub, Int.reduceMul, reduceIte]
    have hlb := rb.lst (nx := k) fun r hr => (hL r (by simp [hr])).2
    rw [ho.bE, ho.bS] at hlb
    have hbn := ho.bn
    have hcn' := ho.cn
    have han' := ho.an
    rw [lst_app hlb (by decide) (by rfl) (by rfl) (by decide) (by omega) (by omega) (by omega)]
    generalize hτ : appSto _ _ _ _ db _ _ = τ
    have t1 := (congrFun hτ _).symm.trans (appSto_key ..)
    have t2 : ∀ i, i ≠ _ → i ∉ Lb → τ i = σ i := fun i h1 h2 => (congrFun hτ i).symm.trans (app_other rb h1 h2)
    clear hτ
    have hnd := List.nodup_cons.1 hn
    have hnd2 := List.nodup_append.1 hnd.2
    have hnd3 := List.nodup_append.1 hnd2.2.1
    have h0b : 0 ∉ Lb := fun hr => hnd.1 (by simp [hr])
    have hab : ∀ r ∈ La, r ∉ Lb := fun r hr hr2 => hnd2.2.2 r hr r (by simp [hr2]) rfl
    have hcb : ∀ r ∈ [rr], r ∉ Lb := fun r hr hr2 => hnd3.2.2 r hr2 r hr rfl
    have hac : ∀ r ∈ La, r ∉ [rr] := fun r hr hr2 => hnd2.2.2 r hr r (by simp [hr2]) rfl
    have hLa : ∀ r ∈ La, 1 ≤ r ∧ r < k := fun r hr => hL r (by simp [hr])
    have hLc : ∀ r ∈ [rr], 1 ≤ r ∧ r < k := fun r hr => hL r (by simp [hr])
    have t3 : τ 0 = some (.ob 84 [da, db, (.w rr 0 c.n)]) := by rw [t2 0 (by omega) h0b, hσ]
    have rc2 : ∀ X, Rw (upd τ 0 X) c (.w rr 0 c.n) [rr] := fun X => rc.frame fun r hr => by
      have := hLc r hr
      rw [upd, if_neg (by omega), t2 r (by omega) (hcb r hr)]
    have ra2 : ∀ X, Rw (upd τ 0 X) a da La := fun X => ra.frame fun r hr => by
      have := hLa r hr
      rw [upd, if_neg (by omega), t2 r (by omega) (hab r hr)]
    simp only [t1, t3, len_rw (rc2 _), len_rw (ra2 _), RR, IA, PA, RA0, RA1, RA2, RA3, RA4, RA5, RA6, RA7, RA8, RA9, RA10, Nat.reduceAdd, Nat.reduceMul, Nat.reduceEqDiff, Nat.reduceLeDiff, Nat.reduceLT, Int.reduceToNat, Int.reduceLT, Int.reduceLE, Int.reduceEq, Int.reduceNeg, Int.reduceAdd, Int.reduceSub, Int.reduceMul, reduceIte]
    have hlc2 := (rc2 (some (.ob 84 [da, .w (k + 4 + 8 + 8 + 8 + 8 + 8 + 4 + 24 + 52 + 28 + 28) 0 (b.n + 1), (.w rr 0 c.n)]))).lst (nx := k) fun r hr => (hLc r hr).2
    rw [ho.cE, ho.cS] at hlc2
    rw [lst_app hlc2 (by decide) (by rfl) (by rfl) (by decide) (by omega) (by omega) (by omega)]
    generalize hτ2 : appSto _ _ _ _ (.w rr 0 c.n) _ _ = τ2
    have u1 := (congrFun hτ2 _).symm.trans (appSto_key ..)
    have u2 : ∀ i, i ≠ _ → i ∉ [rr] → τ2 i = _ := fun i h1 h2 => (congrFun hτ2 i).symm.trans (app_other (rc2 _) h1 h2)
    clear hτ2
    have h0c : 0 ∉ [rr] := fun hr => hnd.1 (by simp [hr])
    have hkc : k + 4 + 8 + 8 + 8 + 8 + 8 + 4 + 24 + 52 + 28 + 28 ∉ [rr] := fun hr => by have := hLc _ hr; omega
    have u3 : τ2 0 = some (.ob 84 [da, .w (k + 4 + 8 + 8 + 8 + 8 + 8 + 4 + 24 + 52 + 28 + 28) 0 (b.n + 1), (.w rr 0 c.n)]) := by rw [u2 0 (by omega) h0c, upd, if_pos rfl]
    have u4 := u2 (k + 4 + 8 + 8 + 8 + 8 + 8 + 4 + 24 + 52 + 28 + 28) (by omega) hkc
    rw [upd, if_neg (by omega), t1] at u4
    simp only [u1, u3, RR, IA, PA, RA0, RA1, RA2, RA3, RA4, RA5, RA6, RA7, RA8, RA9, RA10, Nat.reduceAdd, Nat.reduceMul, Nat.reduceEqDiff, Nat.reduceLeDiff, Nat.reduceLT, Int.reduceToNat, Int.reduceLT, Int.reduceLE, Int.reduceEq, Int.reduceNeg, Int.reduceAdd, Int.reduceSub, Int.reduceMul, reduceIte]
    refine out_rows_one (ds := [da, .w (k + 4 + 8 + 8 + 8 + 8 + 8 + 4 + 24 + 52 + 28 + 28) 0 (b.n + 1), .w (k + 4 + 8 + 8 + 8 + 8 + 8 + 4 + 24 + 52 + 28 + 44 + 44) 0 (c.n + 1)]) (ps := [rsV a, rsV (begR b 9 (S [x, v])), rsV (begR c 3 (N p.st.length))]) (L := La ++ ([k + 4 + 8 + 8 + 8 + 8 + 8 + 4 + 24 + 52 + 28 + 28] ++ [k + 4 + 8 + 8 + 8 + 8 + 8 + 4 + 24 + 52 + 28 + 44 + 44])) ?_ (by rfl) (by rfl) ?_ ?_ (by rfl)
    · simp only [IA, PA, RA0, RA1, RA2, RA3, RA4, RA5, RA6, RA7, RA8, RA9, RA10, Nat.reduceAdd, Nat.reduceMul, Nat.reduceEqDiff, Nat.reduceLeDiff, Nat.reduceLT, Int.reduceToNat, Int.reduceLT, Int.reduceLE, Int.reduceEq, Int.reduceNeg, Int.reduceAdd, Int.reduceSub, Int.reduceMul, reduceIte]
    · refine leaf3 (ra.frame fun r hr => ?_).leaf ?_ ?_
      · have := hLa r hr
        simp only [upd]
        rw [if_neg (by omega), u2 r (by omega) (hac r hr), upd, if_neg (by omega), t2 r (by omega) (hab r hr)]
      · rw [leafP_row (E := 9) (sz := 1) (n := b.n + 1) (cs := b.cs ++ [S [x, v]]) (by simp only [upd]; rw [if_neg (by omega)]; exact u4) (by rw [closedL_append, ho.hb.2.1]; rfl)]
        simp only [rsV, begR, if_true]
      · rw [leafP_row (E := 3) (sz := 1) (n := c.n + 1) (cs := c.cs ++ [N p.st.length]) (by simp only [upd]; rw [if_neg (by omega), u1, han]) (by rw [closedL_append, ho.hc.2.1]; rfl)]
        simp only [rsV, begR, if_true]
    · refine List.nodup_cons.2 ⟨?_, ?_⟩
      · simp only [List.mem_append, List.mem_cons, List.not_mem_nil, or_false, not_or]
        exact ⟨fun hr => by have := hLa _ hr; omega, by omega, by omega⟩
      · refine List.nodup_append.2 ⟨hnd2.1, ?_, ?_⟩
        · simp
        · intro r hr r2 hr2
          have := hLa r hr
          simp only [List.mem_append, List.mem_cons, List.not_mem_nil, or_false] at hr2
          omega
end
end Go.Proofs.YtkilalabmbdmkaaDoor.Ev

/-
Code: the reference's builder at the end of a loop.
-/
namespace Go.Proofs.YtkilalabmbdmkaaDoor.Ev
section
set_option linter.unusedVariables false
set_option linter.unusedSimpArgs false
open Go Go.RowKit
set_option linter.unusedVariables false
set_option linter.unusedSimpArgs false
theorem wrap_u8_two (c : UInt8) : IntKind.u8.wrap ((c.toNat : Int) + 2) = ((c + 2).toNat : Int) := by
  have h : (c + 2).toNat = (c.toNat + 2) % 256 := UInt8.toNat_add c 2
  rw [h]
  unfold IntKind.wrap
  simp [IntKind.bits, IntKind.signed]
theorem end_none {p : PS} {a b c : RS} (h : BR p a b c) (x : UInt8) (hp : p.lp = []) :
    EE 101 [lent 84 [rsV a, rsV b, rsV c], U x] = some (.t [B false, .t [lent 84 [rsV a, rsV b, rsV c], U x]]) := by
  have ho := h.ok
  have hbn := h.bn
  rw [hp] at hbn
  refine EE_rows (os := [a, b, c]) (xs := [U x]) T_end rfl (Nat.le_of_ble_eq_true rfl) (in3 ho.ha ho.hb ho.hc) rfl ?_
  intro ds σ k L hR hn hσ hL hk1 hk
  have hl := hR.leaf
  obtain ⟨da, db, dc, La, Lb, Lc, rfl, rfl, ra, rb, rc⟩ := rw3 hR
  rw [show opt 101 = [] from rfl]
  simp only [bodyOf, Tryd.f101, SA]
  simp only [hσ, len_rw rb, hbn, List.length_nil, IA, PA, RA0, RA1, RA2, RA3, RA4, RA5, RA6, RA7, RA8, RA9, RA10, Nat.reduceAdd, Nat.reduceMul, Nat.reduceEqDiff, Nat.reduceLeDiff, Nat.reduceLT, Int.reduceToNat, Int.reduceLT, Int.reduceLE, Int.reduceEq, Int.reduceNeg, Int.reduceAdd, Int.reduceSub, Int.reduceMul, reduceIte]
  refine out_rows_one (x := B false) (ds := [da, db, dc]) (ps := [rsV a, rsV b, rsV c]) (L := La ++ (Lb ++ Lc)) ?_ (by rfl) (by exact hσ) hl hn (by rfl)
  simp only [IA, PA, RA0, RA1, RA2, RA3, RA4, RA5, RA6, RA7, RA8, RA9, RA10, Nat.reduceAdd, Nat.reduceMul, Nat.reduceEqDiff, Nat.reduceLeDiff, Nat.reduceLT, Int.reduceToNat, Int.reduceLT, Int.reduceLE, Int.reduceEq, Int.reduceNeg, Int.reduceAdd, Int.reduceSub, Int.reduceMul, reduceIte]
theorem BR.lps {p : PS} {a b c : RS} (h : BR p a b c) {s v : UInt8} {n : Nat} {l : List (UInt8 × UInt8 × Nat)} (hp : p.lp = (s, v, n) :: l) :
    b.n = l.length + 1 ∧ c.n = l.length + 1 ∧ b.cs = (l.reverse.map fun q => S [q.1, q.2.1]) ++ [S [s, v]] ∧ c.cs = (l.reverse.map fun q => N (q.2.2 : Int)) ++ [N n] := by
  obtain ⟨st, lp⟩ := p
  simp only at hp
  subst hp
  refine ⟨h.bn, h.cn, ?_, ?_⟩
  · rw [h.bc]; simp
  · rw [h.cc]; simp
theorem end_sign {p : PS} {a b c : RS} (h : BR p a b c) (x : UInt8) {s v : UInt8} {n : Nat} {l : List (UInt8 × UInt8 × Nat)} (hp : p.lp = (s, v, n) :: l) (hs : s + 2 ≠ x) :
    EE 101 [lent 84 [rsV a, rsV b, rsV c], U x] = some (.t [B false, .t [lent 84 [rsV a, rsV b, rsV c], U x]]) := by
  have ho := h.ok
  obtain ⟨hbn, hcn, hbc, hcc⟩ := h.lps hp
  refine EE_rows (os := [a, b, c]) (xs := [U x]) T_end rfl (Nat.le_of_ble_eq_true rfl) (in3 ho.ha ho.hb ho.hc) rfl ?_
  intro ds σ k L hR hn hσ hL hk1 hk
  have hl := hR.leaf
  obtain ⟨da, db, dc, La, Lb, Lc, rfl, rfl, ra, rb, rc⟩ := rw3 hR
  obtain ⟨ri, hb', rfl, rfl, hbσ⟩ := rb.pos (by omega)
  rw [show opt 101 = [] from rfl]
  simp only [bodyOf, Tryd.f101, SA]
  have hbz : ¬ ((b.n : Int) = 0) := by omega
  have hwb : IntKind.i64.wrap ((b.n : Int) - 1) = ((b.n - 1 : Nat) : Int) := by
    have := ho.bn
    rw [wrap64 (by omega) (by omega)]; omega
  have hz1 : (0 : Int) ≤ ((b.n - 1 : Nat) : Int) := by omega
  have hz2 : ((b.n - 1 : Nat) : Int) < (b.n : Int) := by omega
  have hhd : (b.cs.drop (b.n - 1)).head? = some (S [s, v]) := by
    rw [hbc, List.drop_append, List.drop_eq_nil_of_le (by simp; omega), show b.n - 1 - (l.reverse.map fun q => S [q.1, q.2.1]).length = 0 by simp; omega]
    rfl
  have hne : decide (((s + 2).toNat : Int) = (x.toNat : Int)) = false := by
    simp only [decide_eq_false_iff_not]
    intro e
    exact hs (UInt8.toNat_inj.1 (by omega))
  simp only [hσ, hbσ, hbz, hwb, hz1, hz2, hhd, ho.bS, wrap_u8_two, hne, Int.toNat_natCast, Nat.mul_one, Nat.zero_add, IA, PA, RA0, RA1, RA2, RA3, RA4, RA5, RA6, RA7, RA8, RA9, RA10, Nat.reduceAdd, Nat.reduceMul, Nat.reduceEqDiff, Nat.reduceLeDiff, Nat.reduceLT, Int.reduceToNat, Int.reduceLT, Int.reduceLE, Int.reduceEq, Int.reduceNeg, Int.reduceAdd, Int.reduceSub, Int.reduceMul, reduceIte]
  refine out_rows_one (x := B false) (ds := [da, .w ri 0 b.n, dc]) (ps := [rsV a, rsV b, rsV c]) (L := La ++ ([ri] ++ Lc)) ?_ (by rfl) (by exact hσ) hl hn (by rfl)
  simp only [IA, PA, RA0, RA1, RA2, RA3, RA4, RA5, RA6, RA7, RA8, RA9, RA10, Nat.reduceAdd, Nat.reduceMul, Nat.reduceEqDiff, Nat.reduceLeDiff, Nat.reduceLT, Int.reduceToNat, Int.reduceLT, Int.reduceLE, Int.reduceEq, Int.reduceNeg, Int.reduceAdd, Int.reduceSub, Int.reduceMul, reduceIte]
theorem end_len {p : PS} {a b c : RS} (h : BR p a b c) (x : UInt8) {s v : UInt8} {n : Nat} {l : List (UInt8 × UInt8 × Nat)} (hp : p.lp = (s, v, n) :: l) (hs : s + 2 = x) (hnb : n < 1000000000) (hlen : p.st.length ≠ n + 1) :
    EE 101 [lent 84 [rsV a, rsV b, rsV c], U x] = some (.t [B false, .t [lent 84 [rsV a, rsV b, rsV c], U x]]) := by
  have ho := h.ok
  have han := h.an
  obtain ⟨hbn, hcn, hbc, hcc⟩ := h.lps hp
  subst hs
  refine EE_rows (os := [a, b, c]) (xs := [U (s + 2)]) T_end rfl (Nat.le_of_ble_eq_true rfl) (in3 ho.ha ho.hb ho.hc) rfl ?_
  intro ds σ k L hR hn hσ hL hk1 hk
  have hl := hR.leaf
  obtain ⟨da, db, dc, La, Lb, Lc, rfl, rfl, ra, rb, rc⟩ := rw3 hR
  obtain ⟨ri, hb', rfl, rfl, hbσ⟩ := rb.pos (by omega)
  obtain ⟨rj, hc', rfl, rfl, hcσ⟩ := rc.pos (by omega)
  rw [show opt 101 = [] from rfl]
  simp only [bodyOf, Tryd.f101, SA]
  have hbz : ¬ ((b.n : Int) = 0) := by omega
  have hwb : IntKind.i64.wrap ((b.n : Int) - 1) = ((b.n - 1 : Nat) : Int) := by
    have := ho.bn
    rw [wrap64 (by omega) (by omega)]; omega
  have hz1 : (0 : Int) ≤ ((b.n - 1 : Nat) : Int) := by omega
  have hz2 : ((b.n - 1 : Nat) : Int) < (b.n : Int) := by omega
  have hbp : (l.reverse.map fun q => S [q.1, q.2.1]).length = b.n - 1 := by simp; omega
  have hcp : (l.reverse.map fun q => N (q.2.2 : Int)).length = c.n - 1 := by simp; omega
  have hhd : (b.cs.drop (b.n - 1)).head? = some (S [s, v]) := by
    rw [hbc, List.drop_append, List.drop_eq_nil_of_le (by omega), show b.n - 1 - (l.reverse.map fun q => S [q.1, q.2.1]).length = 0 by omega]
    rfl
  have hne : decide (((s + 2).toNat : Int) = ((s + 2).toNat : Int)) = true := by simp
  have hwc : IntKind.i64.wrap ((c.n : Int) - 1) = ((c.n - 1 : Nat) : Int) := by
    have := ho.cn
    rw [wrap64 (by omega) (by omega)]; omega
  have hy1 : (0 : Int) ≤ ((c.n - 1 : Nat) : Int) := by omega
  have hy2 : ((c.n - 1 : Nat) : Int) < (c.n : Int) := by omega
  have hhc : (c.cs.drop (c.n - 1)).head? = some (N n) := by
    rw [hcc, List.drop_append, List.drop_eq_nil_of_le (by omega), show c.n - 1 - (l.reverse.map fun q => N (q.2.2 : Int)).length = 0 by omega]
    rfl
  have hwn : IntKind.i64.wrap ((n : Int) + 1) = ((n + 1 : Nat) : Int) := by rw [wrap64 (by omega) (by omega)]; omega
  have hsl : decide ((a.n : Int) = ((n + 1 : Nat) : Int)) = false := by simp only [decide_eq_false_iff_not]; omega
  simp only [hσ, hbσ, hcσ, hbz, hwb, hz1, hz2, hhd, hwc, hy1, hy2, hhc, hwn, hsl, ho.bS, ho.cS, len_rw ra, wrap_u8_two, hne, Int.toNat_natCast, Nat.mul_one, Nat.zero_add, IA, PA, RA0, RA1, RA2, RA3, RA4, RA5, RA6, RA7, RA8, RA9, RA10, Nat.reduceAdd, Nat.reduceMul, Nat.reduceEqDiff, Nat.reduceLeDiff, Nat.reduceLT, Int.reduceToNat, Int.reduceLT, Int.reduceLE, Int.reduceEq, Int.reduceNeg, Int.reduceAdd, Int.reduceSub, Int.reduceMul, reduceIte]
  refine out_rows_one (x := B false) (ds := [da, .w ri 0 b.n, .w rj 0 c.n]) (ps := [rsV a, rsV b, rsV c]) (L := La ++ ([ri] ++ [rj])) ?_ (by rfl) (by exact hσ) hl hn (by rfl)
  simp only [IA, PA, RA0, RA1, RA2, RA3, RA4, RA5, RA6, RA7, RA8, RA9, RA10, Nat.reduceAdd, Nat.reduceMul, Nat.reduceEqDiff, Nat.reduceLeDiff, Nat.reduceLT, Int.reduceToNat, Int.reduceLT, Int.reduceLE, Int.reduceEq, Int.reduceNeg, Int.reduceAdd, Int.reduceSub, Int.reduceMul, reduceIte]
def cutR (b : RS) : RS := { b with n := b.n - 1, cs := b.cs.take ((b.n - 1) * b.sz) }
theorem BR.ended {p : PS} {a b c : RS} (h : BR p a b c) {s v : UInt8} {n : Nat} {l : List (UInt8 × UInt8 × Nat)} (hp : p.lp = (s, v, n) :: l) : BR ⟨p.st, l⟩ a (cutR b) (cutR c) := by
  have ho := h.ok
  obtain ⟨hbn, hcn, hbc, hcc⟩ := h.lps hp
  have hbp : (l.reverse.map fun q => S [q.1, q.2.1]).length = b.n - 1 := by simp; omega
  have hcp : (l.reverse.map fun q => N (q.2.2 : Int)).length = c.n - 1 := by simp; omega
  have eb : b.cs.take ((b.n - 1) * b.sz) = l.reverse.map fun q => S [q.1, q.2.1] := by rw [hbc, ho.bS, Nat.mul_one, List.take_append_of_le_length (by omega), List.take_of_length_le (by omega)]
  have ec : c.cs.take ((c.n - 1) * c.sz) = l.reverse.map fun q => N (q.2.2 : Int) := by rw [hcc, ho.cS, Nat.mul_one, List.take_append_of_le_length (by omega), List.take_of_length_le (by omega)]
  have hbb : b.b = true := by
    cases hb : b.b
    · have := (ho.hb.2.2 hb).1; omega
    · rfl
  have hcb : c.b = true := by
    cases hb : c.b
    · have := (ho.hc.2.2 hb).1; omega
    · rfl
  have cb := ho.hb.2.1
  have cc := ho.hc.2.1
  rw [hbc, closedL_append, Bool.and_eq_true] at cb
  rw [hcc, closedL_append, Bool.and_eq_true] at cc
  have h1 := ho.bn
  have h2 := ho.cn
  refine ⟨⟨ho.ha, ⟨?_, ?_, ?_⟩, ⟨?_, ?_, ?_⟩, ho.aE, ho.aS, ho.bE, ho.bS, ho.cE, ho.cS, ho.an, ?_, ?_⟩, h.an, h.ac, ?_, eb, ?_, ec⟩
  · show (b.cs.take ((b.n - 1) * b.sz)).length = (b.n - 1) * b.sz
    rw [eb, hbp, ho.bS]; omega
  · simp only [cutR, eb]; exact cb.1
  · simp only [cutR, hbb]; intro hh; cases hh
  · show (c.cs.take ((c.n - 1) * c.sz)).length = (c.n - 1) * c.sz
    rw [ec, hcp, ho.cS]; omega
  · simp only [cutR, ec]; exact cc.1
  · simp only [cutR, hcb]; intro hh; cases hh
  · simp only [cutR]; omega
  · simp only [cutR]; omega
  · simp only [cutR]; omega
  · simp only [cutR]; omega
theorem tk_cut {b : RS} (h : b.n ≠ 0) : tk (b.n - 1) b.n b.sz b.cs = (cutR b).cs := by
  unfold tk cutR
  rw [if_neg (by omega)]
theorem leaf_cut {σ : Sto} {b : RS} {r : Nat} (ho : rsOk b) (hσ : σ r = some (.row b.E b.sz b.n b.cs)) (hn : b.n ≠ 0) (hb : b.b = true) : leafP σ (.w r 0 (b.n - 1)) = some (rsV (cutR b), [r]) := by
  rw [leafP_part hσ ho.2.1 (by omega), tk_cut hn]
  simp only [rsV, cutR, hb, if_true]
theorem end_ok {p : PS} {a b c : RS} (h : BR p a b c) (x : UInt8) {s v : UInt8} {n : Nat} {l : List (UInt8 × UInt8 × Nat)} (hp : p.lp = (s, v, n) :: l) (hs : s + 2 = x) (hnb : n < 1000000000) (hlen : p.st.length = n + 1) {y z : T} {r r2 : List T} (hq : popP p.st n = some (y, r)) (hq2 : popP r (baseP l) = some (z, r2)) :
    EE 101 [lent 84 [rsV a, rsV b, rsV c], U x] = some (.t [B true, .t [lent 84 [rsV (pushR (popR (popR a (r.reverse.flatMap encN)) (r2.reverse.flatMap encN)) (encN (.loop s v z y))), rsV (cutR b), rsV (cutR c)], U x]]) := by
  have ho := h.ok
  have han := h.an
  obtain ⟨hbn, hcn, hbc, hcc⟩ := h.lps hp
  subst hs
  have hq' : popP p.st (baseP p.lp) = some (y, r) := by rw [hp]; exact hq
  have hpo := pop_br h hq'
  obtain ⟨hs1, hle1⟩ := popP_some hq'
  have h1 := h.popped hs1
  have ho1 := h1.ok
  have h2 := h1.ended (s := s) (v := v) (n := n) (l := l) hp
  have ho2 := h2.ok
  have hpo2 := pop_br h2 hq2
  obtain ⟨hs2, hle2⟩ := popP_some hq2
  have h3 := h2.popped hs2
  have ho3 := h3.ok
  have hpu := push_br h3 (.loop s v z y)
  have hok1 := in3 ho1.ha ho1.hb ho1.hc
  have hok3 := in3 ho3.ha ho3.hb ho3.hc
  have hok := in3 (pushR_ok ho3.ha ho3.aS (encN_len (.loop s v z y)) (encN_closed _)) ho3.hb ho3.hc
  refine EE_rows (os := [a, b, c]) (xs := [U (s + 2)]) T_end rfl (Nat.le_of_ble_eq_true rfl) (in3 ho.ha ho.hb ho.hc) rfl ?_
  intro ds σ k L hR hn hσ hL hk1 hk
  have hl := hR.leaf
  obtain ⟨da, db, dc, La, Lb, Lc, rfl, rfl, ra, rb, rc⟩ := rw3 hR
  obtain ⟨ri, hb', rfl, rfl, hbσ⟩ := rb.pos (by omega)
  obtain ⟨rj, hc', rfl, rfl, hcσ⟩ := rc.pos (by omega)
  rw [show opt 101 = [] from rfl]
  simp only [bodyOf, Tryd.f101, SA]
  have hbz : ¬ ((b.n : Int) = 0) := by omega
  have hwb : IntKind.i64.wrap ((b.n : Int) - 1) = ((b.n - 1 : Nat) : Int) := by
    have := ho.bn
    rw [wrap64 (by omega) (by omega)]; omega
  have hz1 : (0 : Int) ≤ ((b.n - 1 : Nat) : Int) := by omega
  have hz2 : ((b.n - 1 : Nat) : Int) < (b.n : Int) := by omega
  have hbp : (l.reverse.map fun q => S [q.1, q.2.1]).length = b.n - 1 := by simp; omega
  have hcp : (l.reverse.map fun q => N (q.2.2 : Int)).length = c.n - 1 := by simp; omega
  have hhd : (b.cs.drop (b.n - 1)).head? = some (S [s, v]) := by
    rw [hbc, List.drop_append, List.drop_eq_nil_of_le (by omega), show b.n - 1 - (l.reverse.map fun q => S [q.1, q.2.1]).length = 0 by omega]
    rfl
  have hne : decide (((s + 2).toNat : Int) = ((s + 2).toNat : Int)) = true := by simp
  have hwc : IntKind.i64.wrap ((c.n : Int) - 1) = ((c.n - 1 : Nat) : Int) := by
    have := ho.cn
    rw [wrap64 (by omega) (by omega)]; omega
  have hy1 : (0 : Int) ≤ ((c.n - 1 : Nat) : Int) := by omega
  have hy2 : ((c.n - 1 : Nat) : Int) < (c.n : Int) := by omega
  have hhc : (c.cs.drop (c.n - 1)).head? = some (N n) := by
    rw [hcc, List.drop_append, List.drop_eq_nil_of_le (by omega), show c.n - 1 - (l.reverse.map fun q => N (q.2.2 : Int)).length = 0 by omega]
    rfl
  have hwn : IntKind.i64.wrap ((n : Int) + 1) = ((n + 1 : Nat) : Int) := by rw [wrap64 (by omega) (by omega)]; omega
  have hsl : decide ((a.n : Int) = ((n + 1 : Nat) : Int)) = true := by simp only [decide_eq_true_eq]; omega
  simp only [hσ, hbσ, hcσ, hbz, hwb, hz1, hz2, hhd, hwc, hy1, hy2, hhc, hwn, hsl, ho.bS, ho.cS, len_rw ra, wrap_u8_two, hne, Int.toNat_natCast, Nat.mul_one, Nat.zero_add, IA, PA, RA0, RA1, RA2, RA3, RA4, RA5, RA6, RA7, RA8, RA9, RA10, Nat.reduceAdd, Nat.reduceMul, Nat.reduceEqDiff, Nat.reduceLeDiff, Nat.reduceLT, Int.reduceToNat, Int.reduceLT, Int.reduceLE, Int.reduceEq, Int.reduceNeg, Int.reduceAdd, Int.reduceSub, Int.reduceMul, reduceIte]
  rw [call_ob_eq (os' := [popR a (r.reverse.flatMap encN), b, c]) (by rfl) hσ hl hn (by rfl) (by exact hpo) hok1 (by simp only [closed, closedL, encN_closed, Bool.and_self]) (by simp only [room, closed, closedL, encN_closed, Bool.and_self]; exact Nat.le_of_ble_eq_true rfl)]
  generalize hτ : aftS _ _ _ _ _ _ = τ
  obtain ⟨ds1, L1, f11, f12, f13, f14, f15⟩ := aft_of hτ hok1 (by omega)
  clear hτ
  simp only [List.length_cons, List.length_nil] at f14
  obtain ⟨da1, db1, dc1, La1, Lb1, Lc1, rfl, rfl, ra1, rb1, rc1⟩ := rw3 f12
  obtain ⟨r1, hb1, rfl, rfl, hbτ⟩ := rb1.pos (by omega)
  obtain ⟨r3, hc1, rfl, rfl, hcτ⟩ := rc1.pos (by omega)
  have hz3 : ((b.n - 1 : Nat) : Int) ≤ (b.n : Int) := by omega
  have hy3 : ((c.n - 1 : Nat) : Int) ≤ (c.n : Int) := by omega
  simp only [f11, hbτ, hcτ, hwb, hz1, hz2, hz3, hwc, hy1, hy2, hy3, cut_w_hi, Int.toNat_natCast, TMA, IA, PA, RA0, RA1, RA2, RA3, RA4, RA5, RA6, RA7, RA8, RA9, RA10, Nat.reduceAdd, Nat.reduceMul, Nat.reduceEqDiff, Nat.reduceLeDiff, Nat.reduceLT, Int.reduceToNat, Int.reduceLT, Int.reduceLE, Int.reduceEq, Int.reduceNeg, Int.reduceAdd, Int.reduceSub, Int.reduceMul, reduceIte]
  have g1 := f14 r1 (by simp)
  have g3 := f14 r3 (by simp)
  rw [call_ob_eq (os' := [popR (popR a (r.reverse.flatMap encN)) (r2.reverse.flatMap encN), cutR b, cutR c]) (by rfl) (by rfl) (leaf3 (ra1.frame (fun q hq => by have := f14 q (by simp [hq]); simp only [upd]; repeat rw [if_neg (by omega)])).leaf (leaf_cut ho.hb (by simp only [upd]; (repeat rw [if_neg (by omega)]); exact hbτ) (by omega) hb1) (leaf_cut ho.hc (by simp only [upd]; (repeat rw [if_neg (by omega)]); exact hcτ) (by omega) hc1)) f13 (by rfl) (by exact hpo2) hok3 (by simp only [closed, closedL, encN_closed, Bool.and_self]) (by simp only [room, closed, closedL, encN_closed, Bool.and_self]; exact Nat.le_of_ble_eq_true rfl)]
  generalize hτ2 : aftS _ _ _ _ _ _ = τ2
  obtain ⟨ds2, L2, f21, f22, f23, f24, f25⟩ := aft_of hτ2 hok3 (by omega)
  clear hτ2
  simp only [List.length_cons, List.length_nil] at f24
  have hbx : τ2 (k + 4 + 180 + 52 + 20) = some (.ob 33 (encN y)) := by
    rw [f25 _ (by omega) (fun hm => by have := f14 _ hm; omega) (.inl (by omega))]
    simp only [upd]
    rw [if_neg (by omega), if_neg (by omega)]
    simp only [if_true]
  have hnk : ¬ (k = k + 152) := by omega
  simp only [f21, hbx, hnk, TMA, IA, PA, RA0, RA1, RA2, RA3, RA4, RA5, RA6, RA7, RA8, RA9, RA10, Nat.reduceAdd, Nat.reduceMul, Nat.reduceEqDiff, Nat.reduceLeDiff, Nat.reduceLT, Int.reduceToNat, Int.reduceLT, Int.reduceLE, Int.reduceEq, Int.reduceNeg, Int.reduceAdd, Int.reduceSub, Int.reduceMul, reduceIte]
  rw [call_ob_eq (os' := [pushR (popR (popR a (r.reverse.flatMap encN)) (r2.reverse.flatMap encN)) (encN (.loop s v z y)), cutR b, cutR c]) (by rfl) (by simp only [upd]; (repeat rw [if_neg (by omega)]); exact f21) (f22.frame (fun r hr => by have := f24 r hr; simp only [upd]; repeat rw [if_neg (by omega)])).leaf f23 (by simp only [List.all_cons, List.all_nil, goes, closed, closedL, closedL_append, encN_closed, Bool.and_self]) (by exact hpu) hok (by rfl) (Nat.le_of_ble_eq_true rfl)]
  generalize hτ3 : aftS _ _ _ _ _ _ = τ3
  obtain ⟨ds3, L3, f31, f32, f33, f34, f35⟩ := aft_of hτ3 hok (by omega)
  clear hτ3
  simp only [List.length_cons, List.length_nil] at f34
  simp only [f31, TMA, IA, PA, RA0, RA1, RA2, RA3, RA4, RA5, RA6, RA7, RA8, RA9, RA10, Nat.reduceAdd, Nat.reduceMul, Nat.reduceEqDiff, Nat.reduceLeDiff, Nat.reduceLT, Int.reduceToNat, Int.reduceLT, Int.reduceLE, Int.reduceEq, Int.reduceNeg, Int.reduceAdd, Int.reduceSub, Int.reduceMul, reduceIte]
  refine out_rows_one (x := B true) (ds := ds3) (ps := [rsV (pushR (popR (popR a (r.reverse.flatMap encN)) (r2.reverse.flatMap encN)) (encN (.loop s v z y))), rsV (cutR b), rsV (cutR c)]) (L := L3) ?_ (by rfl) (by exact f31) f32.leaf f33 (by rfl)
  simp only [IA, PA, RA0, RA1, RA2, RA3, RA4, RA5, RA6, RA7, RA8, RA9, RA10, Nat.reduceAdd, Nat.reduceMul, Nat.reduceEqDiff, Nat.reduceLeDiff, Nat.reduceLT, Int.reduceToNat, Int.reduceLT, Int.reduceLE, Int.reduceEq, Int.reduceNeg, Int.reduceAdd, Int.reduceSub, Int.reduceMul, reduceIte]
end
end Go.Proofs.YtkilalabmbdmkaaDoor.Ev

/-
Code: what the reference's builder does at any instruction.
-/
namespace Go.Proofs.YtkilalabmbdmkaaDoor.Ev
section
set_option linter.unusedVariables false
set_option linter.unusedSimpArgs false
open Go Go.RowKit
set_option linter.unusedVariables false
set_option linter.unusedSimpArgs false
theorem do_zero {p : PS} {a b c : RS} (h : BR p a b c) (s : List UInt8) (hk0 : kindM s = 0) :
    EE 64 [lent 84 [rsV a, rsV b, rsV c], S s] = some (.t [B false, .t [lent 84 [rsV a, rsV b, rsV c], S s]]) := by
  have ho := h.ok
  refine EE_rows (os := [a, b, c]) (xs := [S s]) T_do rfl (Nat.le_of_ble_eq_true rfl) (in3 ho.ha ho.hb ho.hc) rfl ?_
  intro ds σ k L hR hn hσ hL hk1 hk
  rw [show opt 64 = [] from rfl]
  simp only [bodyOf, Tryd.f64, SA]
  have hkd : EE 98 [S s] = some (.v (.int .u8 0)) := by rw [l7Kind_ev, hk0]; rfl
  simp only [hkd, IA, PA, RA0, RA1, RA2, RA3, RA4, RA5, RA6, RA7, RA8, RA9, RA10, Nat.reduceAdd, Nat.reduceMul, Nat.reduceEqDiff, Nat.reduceLeDiff, Nat.reduceLT, Int.reduceToNat, Int.reduceLT, Int.reduceLE, Int.reduceEq, Int.reduceNeg, Int.reduceAdd, Int.reduceSub, Int.reduceMul, reduceIte]
  refine out_rows_one (x := B false) (ds := ds) (ps := [rsV a, rsV b, rsV c]) (L := L) ?_ (by rfl) (by exact hσ) hR.leaf hn (by rfl)
  simp only [IA, PA, RA0, RA1, RA2, RA3, RA4, RA5, RA6, RA7, RA8, RA9, RA10, Nat.reduceAdd, Nat.reduceMul, Nat.reduceEqDiff, Nat.reduceLeDiff, Nat.reduceLT, Int.reduceToNat, Int.reduceLT, Int.reduceLE, Int.reduceEq, Int.reduceNeg, Int.reduceAdd, Int.reduceSub, Int.reduceMul, reduceIte]
theorem do_beg_no {p : PS} {a b c : RS} (h : BR p a b c) (x v : UInt8) (hx : x = 91 ∨ x = 123) (hv : isLV v = true) (hle : p.st.length ≤ baseP p.lp) (hb9 : baseP p.lp < 1000000000) :
    EE 64 [lent 84 [rsV a, rsV b, rsV c], S [x, v]] = some (.t [B false, .t [lent 84 [rsV a, rsV b, rsV c], S [x, v]]]) := by
  have ho := h.ok
  have hba := h.base
  have han := h.an
  have hcn := h.cn
  refine EE_rows (os := [a, b, c]) (xs := [S [x, v]]) T_do rfl (Nat.le_of_ble_eq_true rfl) (in3 ho.ha ho.hb ho.hc) rfl ?_
  intro ds σ k L hR hn hσ hL hk1 hk
  have hl := hR.leaf
  obtain ⟨da, db, dc, La, Lb, Lc, rfl, rfl, ra, rb, rc⟩ := rw3 hR
  rw [show opt 64 = [] from rfl]
  simp only [bodyOf, Tryd.f64, SA]
  have hkd : EE 98 [S [x, v]] = some (.v (.int .u8 91)) := by rw [l7Kind_ev, kind_beg hx hv]; rfl
  simp only [hkd, hσ, len_rw rc, IA, PA, RA0, RA1, RA2, RA3, RA4, RA5, RA6, RA7, RA8, RA9, RA10, Nat.reduceAdd, Nat.reduceMul, Nat.reduceEqDiff, Nat.reduceLeDiff, Nat.reduceLT, Int.reduceToNat, Int.reduceLT, Int.reduceLE, Int.reduceEq, Int.reduceNeg, Int.reduceAdd, Int.reduceSub, Int.reduceMul, reduceIte]
  rcases hba with ⟨hc0, hb0⟩ | ⟨hc0, pre, hcs, hpl⟩
  · have hlc : ¬ ((0 : Int) < (c.n : Int)) := by omega
    have hla : ((a.n : Int) ≤ 0) := by omega
    simp only [hlc, hla, hσ, len_rw ra, RR, IA, PA, RA0, RA1, RA2, RA3, RA4, RA5, RA6, RA7, RA8, RA9, RA10, Nat.reduceAdd, Nat.reduceMul, Nat.reduceEqDiff, Nat.reduceLeDiff, Nat.reduceLT, Int.reduceToNat, Int.reduceLT, Int.reduceLE, Int.reduceEq, Int.reduceNeg, Int.reduceAdd, Int.reduceSub, Int.reduceMul, reduceIte]
    refine out_rows_one (x := B false) (ds := [da, db, dc]) (ps := [rsV a, rsV b, rsV c]) (L := La ++ (Lb ++ Lc)) ?_ (by rfl) (by exact hσ) hl hn (by rfl)
    simp only [IA, PA, RA0, RA1, RA2, RA3, RA4, RA5, RA6, RA7, RA8, RA9, RA10, Nat.reduceAdd, Nat.reduceMul, Nat.reduceEqDiff, Nat.reduceLeDiff, Nat.reduceLT, Int.reduceToNat, Int.reduceLT, Int.reduceLE, Int.reduceEq, Int.reduceNeg, Int.reduceAdd, Int.reduceSub, Int.reduceMul, reduceIte]
  · have hlc : ((0 : Int) < (c.n : Int)) := by omega
    obtain ⟨rr, hcb', rfl, rfl, hcσ⟩ := rc.pos hc0
    have hwc : IntKind.i64.wrap ((c.n : Int) - 1) = ((c.n - 1 : Nat) : Int) := by
      have := ho.cn
      rw [wrap64 (by omega) (by omega)]; omega
    have hz1 : (0 : Int) ≤ ((c.n - 1 : Nat) : Int) := by omega
    have hz2 : ((c.n - 1 : Nat) : Int) < (c.n : Int) := by omega
    have hhd : (c.cs.drop (c.n - 1)).head? = some (N (baseP p.lp)) := by
      rw [hcs, List.drop_append, List.drop_eq_nil_of_le (by omega), show c.n - 1 - pre.length = 0 by omega]
      rfl
    have hla : ((a.n : Int) ≤ (baseP p.lp : Int)) := by omega
    simp only [hlc, hcσ, hwc, hz1, hz2, hhd, hla, hσ, ho.cS, Int.toNat_natCast, Nat.mul_one, Nat.zero_add, len_rw ra, RR, IA, PA, RA0, RA1, RA2, RA3, RA4, RA5, RA6, RA7, RA8, RA9, RA10, Nat.reduceAdd, Nat.reduceMul, Nat.reduceEqDiff, Nat.reduceLeDiff, Nat.reduceLT, Int.reduceToNat, Int.reduceLT, Int.reduceLE, Int.reduceEq, Int.reduceNeg, Int.reduceAdd, Int.reduceSub, Int.reduceMul, reduceIte]
    refine out_rows_one (x := B false) (ds := [da, db, .w rr 0 c.n]) (ps := [rsV a, rsV b, rsV c]) (L := La ++ (Lb ++ [rr])) ?_ (by rfl) (by exact hσ) hl hn (by rfl)
    simp only [IA, PA, RA0, RA1, RA2, RA3, RA4, RA5, RA6, RA7, RA8, RA9, RA10, Nat.reduceAdd, Nat.reduceMul, Nat.reduceEqDiff, Nat.reduceLeDiff, Nat.reduceLT, Int.reduceToNat, Int.reduceLT, Int.reduceLE, Int.reduceEq, Int.reduceNeg, Int.reduceAdd, Int.reduceSub, Int.reduceMul, reduceIte]
theorem do_end {p : PS} {a b c a' b' c' : RS} (h : BR p a b c) (x : UInt8) (hx : x = 93 ∨ x = 125) (r : Bool) (ha : rsOk a') (hb : rsOk b') (hc : rsOk c')
    (he : EE 101 [lent 84 [rsV a, rsV b, rsV c], U x] = some (.t [B r, .t [lent 84 [rsV a', rsV b', rsV c'], U x]])) :
    EE 64 [lent 84 [rsV a, rsV b, rsV c], S [x]] = some (.t [B r, .t [lent 84 [rsV a', rsV b', rsV c'], S [x]]]) := by
  have ho := h.ok
  refine EE_rows (os := [a, b, c]) (xs := [S [x]]) T_do rfl (Nat.le_of_ble_eq_true rfl) (in3 ho.ha ho.hb ho.hc) rfl ?_
  intro ds σ k L hR hn hσ hL hk1 hk
  rw [show opt 64 = [] from rfl]
  simp only [bodyOf, Tryd.f64, SA]
  have hkd : EE 98 [S [x]] = some (.v (.int .u8 93)) := by rw [l7Kind_ev, kind_end hx]; rfl
  have hok := in3 ha hb hc
  simp only [hkd, IA, PA, RA0, RA1, RA2, RA3, RA4, RA5, RA6, RA7, RA8, RA9, RA10, Nat.reduceAdd, Nat.reduceMul, Nat.reduceEqDiff, Nat.reduceLeDiff, Nat.reduceLT, Int.reduceToNat, Int.reduceLT, Int.reduceLE, Int.reduceEq, Int.reduceNeg, Int.reduceAdd, Int.reduceSub, Int.reduceMul, reduceIte]
  rw [call_ob_eq (os' := [a', b', c']) (by rfl) hσ hR.leaf hn (by rfl) (by exact he) hok (by rfl) (Nat.le_of_ble_eq_true rfl)]
  generalize hτ : aftS _ _ _ _ _ _ = τ
  obtain ⟨ds1, L1, f1, f2, f3, f4, f5⟩ := aft_of hτ hok (by omega)
  clear hτ
  simp only [f1, IA, PA, RA0, RA1, RA2, RA3, RA4, RA5, RA6, RA7, RA8, RA9, RA10, Nat.reduceAdd, Nat.reduceMul, Nat.reduceEqDiff, Nat.reduceLeDiff, Nat.reduceLT, Int.reduceToNat, Int.reduceLT, Int.reduceLE, Int.reduceEq, Int.reduceNeg, Int.reduceAdd, Int.reduceSub, Int.reduceMul, reduceIte]
  refine out_rows_one (x := B r) (ds := ds1) (ps := [rsV a', rsV b', rsV c']) (L := L1) ?_ (by rfl) (by exact f1) f2.leaf f3 (by rfl)
  simp only [IA, PA, RA0, RA1, RA2, RA3, RA4, RA5, RA6, RA7, RA8, RA9, RA10, Nat.reduceAdd, Nat.reduceMul, Nat.reduceEqDiff, Nat.reduceLeDiff, Nat.reduceLT, Int.reduceToNat, Int.reduceLT, Int.reduceLE, Int.reduceEq, Int.reduceNeg, Int.reduceAdd, Int.reduceSub, Int.reduceMul, reduceIte]
/-- What is told of an instruction done. -/
def Done (p : PS) (a b c : RS) (s : List UInt8) : Prop :=
  ∃ r a' b' c', rsOk a' ∧ rsOk b' ∧ rsOk c' ∧ EE 64 [lent 84 [rsV a, rsV b, rsV c], S s] = some (.t [B r, .t [lent 84 [rsV a', rsV b', rsV c'], S s]]) ∧
    match doP s p with
    | some p' => r = true ∧ BR p' a' b' c'
    | none => r = false
theorem BR.begun {p : PS} {a b c : RS} (h : BR p a b c) (x v : UInt8) (hb : p.st.length < 1000000000) (hl : p.lp.length + 1 < 1000000000) : BR ⟨p.st, (x, v, p.st.length) :: p.lp⟩ a (begR b 9 (S [x, v])) (begR c 3 (N p.st.length)) := by
  have ho := h.ok
  have hb1 := h.bn
  have hc1 := h.cn
  refine ⟨⟨ho.ha, begR_ok ho.hb ho.bS rfl, begR_ok ho.hc ho.cS rfl, ho.aE, ho.aS, rfl, rfl, rfl, rfl, ho.an, ?_, ?_⟩, h.an, h.ac, ?_, ?_, ?_, ?_⟩
  · simp only [begR]; omega
  · simp only [begR]; omega
  · simp only [begR, List.length_cons]; omega
  · simp only [begR, h.bc, List.reverse_cons, List.map_append, List.map_cons, List.map_nil]
  · simp only [begR, List.length_cons]; omega
  · simp only [begR, h.cc, List.reverse_cons, List.map_append, List.map_cons, List.map_nil]
theorem do_br {p : PS} {a b c : RS} (h : BR p a b c) (hi : InvP p) (s : List UInt8) (hb : p.st.length + 1 < 1000000000) (hl : p.lp.length + 1 < 1000000000) : Done p a b c s := by
  have ho := h.ok
  have hb9 : baseP p.lp < 1000000000 := by have := hi.hb; omega
  unfold Done
  rcases s with _ | ⟨x, _ | ⟨v, _ | ⟨d, s⟩⟩⟩
  · exact ⟨false, a, b, c, ho.ha, ho.hb, ho.hc, do_zero h _ rfl, rfl⟩
  · by_cases hd : isDig x = true
    · have e : leafI x = .dig x := by simp [leafI, hd]
      refine ⟨true, _, b, c, pushR_ok ho.ha ho.aS (encN_len _) (encN_closed _), ho.hb, ho.hc, do_a h x (.inl hd), ?_⟩
      simp only [doP, hd, if_true]
      rw [e]
      exact ⟨by first | rfl | trivial, h.pushed (.dig x) hb⟩
    by_cases hv : isVar x = true
    · have e : leafI x = .var x := by simp [leafI, hd]
      refine ⟨true, _, b, c, pushR_ok ho.ha ho.aS (encN_len _) (encN_closed _), ho.hb, ho.hc, do_a h x (.inr hv), ?_⟩
      simp only [doP, hd, hv, if_true, Bool.false_eq_true, if_false]
      rw [e]
      exact ⟨by first | rfl | trivial, h.pushed (.var x) hb⟩
    by_cases h1 : isOne x = true
    · simp only [doP, hd, hv, h1, if_true, Bool.false_eq_true, if_false]
      cases hp : popP p.st (baseP p.lp) with
      | none => exact ⟨false, _, b, c, pushR_ok ho.ha ho.aS rfl rfl, ho.hb, ho.hc, do_S_no h x h1 hb9 hp, rfl⟩
      | some q =>
        obtain ⟨y, r⟩ := q
        obtain ⟨hs, hle⟩ := popP_some hp
        have h2 := h.popped hs
        have hr : r.length + 1 < 1000000000 := by rw [hs] at hb; simp only [List.length_cons] at hb; omega
        have h3 := h2.pushed (.one x y) hr
        exact ⟨true, _, b, c, h3.ok.ha, ho.hb, ho.hc, do_S h x h1 hp, by first | rfl | trivial, h3⟩
    by_cases h2 : isTwo x = true
    · simp only [doP, hd, hv, h1, h2, if_true, Bool.false_eq_true, if_false]
      cases hp : popP p.st (baseP p.lp) with
      | none => exact ⟨false, _, b, c, pushR_ok ho.ha ho.aS rfl rfl, ho.hb, ho.hc, do_2_no h x h2 hb9 hp, rfl⟩
      | some q =>
        obtain ⟨y, r⟩ := q
        obtain ⟨hs, hle⟩ := popP_some hp
        have h3 := h.popped hs
        cases hq : popP r (baseP p.lp) with
        | none =>
          simp only [hq]
          exact ⟨false, _, b, c, pushR_ok h3.ok.ha h3.ok.aS rfl (by simp only [closed, closedL, zeroN, closedL_append, encN_closed, Bool.and_self]), ho.hb, ho.hc, do_2_no2 h x h2 hb9 hp hq, rfl⟩
        | some q =>
          obtain ⟨z, r2⟩ := q
          obtain ⟨hs2, hle2⟩ := popP_some hq
          have h4 := h3.popped hs2
          have hr : r2.length + 1 < 1000000000 := by rw [hs, hs2] at hb; simp only [List.length_cons] at hb; omega
          have h5 := h4.pushed (.two x z y) hr
          simp only [hq]
          exact ⟨true, _, b, c, h5.ok.ha, ho.hb, ho.hc, do_2 h x h2 hp hq, by first | rfl | trivial, h5⟩
    by_cases h3 : x = 93 ∨ x = 125
    · simp only [doP, hd, hv, h1, h2, h3, if_true, Bool.false_eq_true, if_false, endP]
      cases hlp : p.lp with
      | nil => exact ⟨false, a, b, c, ho.ha, ho.hb, ho.hc, do_end h x h3 false ho.ha ho.hb ho.hc (end_none h x hlp), rfl⟩
      | cons q l =>
        obtain ⟨s, v, n⟩ := q
        have hil := hi.hl
        have hib := hi.hb
        rw [hlp] at hil hib
        have hib' : n ≤ p.st.length := hib
        obtain ⟨hil1, hil2, hil3⟩ := hil
        have hn9 : n < 1000000000 := by omega
        simp only
        by_cases hs : s + 2 = x
        · by_cases hlen : p.st.length = n + 1
          · rw [if_pos ⟨hs, hlen⟩]
            cases hst : p.st with
            | nil => rw [hst] at hlen; simp at hlen
            | cons y r =>
              rw [hst] at hlen
              simp only [List.length_cons] at hlen
              rw [popP_mk (by omega)]
              simp only
              cases r with
              | nil => simp only [List.length_nil] at hlen; omega
              | cons z r2 =>
                simp only [List.length_cons] at hlen
                have hq : popP p.st n = some (y, z :: r2) := by rw [hst, popP_mk (by simp only [List.length_cons]; omega)]
                have hq2 : popP (z :: r2) (baseP l) = some (z, r2) := popP_mk (by omega)
                rw [hq2]
                have hq' : popP p.st (baseP p.lp) = some (y, z :: r2) := by rw [hlp]; exact hq
                have h4 := ((h.popped hst).ended (s := s) (v := v) (n := n) (l := l) hlp)
                have h5 := (h4.popped (x := z) (r := r2) rfl).pushed (.loop s v z y) (by rw [hst] at hb; simp only [List.length_cons] at hb; simp only; omega)
                exact ⟨true, _, _, _, h5.ok.ha, h5.ok.hb, h5.ok.hc, do_end h x h3 true h5.ok.ha h5.ok.hb h5.ok.hc (end_ok h x hlp hs hn9 (by rw [hst]; simp only [List.length_cons]; omega) hq hq2), by first | rfl | trivial, h5⟩
          · rw [if_neg (by intro hh; exact hlen hh.2)]
            exact ⟨false, a, b, c, ho.ha, ho.hb, ho.hc, do_end h x h3 false ho.ha ho.hb ho.hc (end_len h x hlp hs hn9 hlen), rfl⟩
        · rw [if_neg (by intro hh; exact hs hh.1)]
          exact ⟨false, a, b, c, ho.ha, ho.hb, ho.hc, do_end h x h3 false ho.ha ho.hb ho.hc (end_sign h x hlp hs), rfl⟩
    · simp only [doP, hd, hv, h1, h2, h3, if_true, Bool.false_eq_true, if_false]
      refine ⟨false, a, b, c, ho.ha, ho.hb, ho.hc, do_zero h _ ?_, rfl⟩
      simp only [not_or] at h3
      simp [kindM, hd, hv, h1, h2, h3]
  · by_cases hx : (x = 91 ∨ x = 123) ∧ isLV v = true
    · simp only [doP]
      rw [if_pos hx]
      by_cases hlt : baseP p.lp < p.st.length
      · rw [if_pos hlt]
        have h2 := h.begun x v (by omega) hl
        exact ⟨true, _, _, _, h2.ok.ha, h2.ok.hb, h2.ok.hc, do_beg h x v hx.1 hx.2 hlt, by first | rfl | trivial, h2⟩
      · rw [if_neg hlt]
        exact ⟨false, a, b, c, ho.ha, ho.hb, ho.hc, do_beg_no h x v hx.1 hx.2 (by omega) hb9, rfl⟩
    · simp only [doP]
      rw [if_neg hx]
      refine ⟨false, a, b, c, ho.ha, ho.hb, ho.hc, do_zero h _ ?_, rfl⟩
      simp only [kindM]
      rw [if_neg]
      simpa using hx
  · exact ⟨false, a, b, c, ho.ha, ho.hb, ho.hc, do_zero h _ rfl, rfl⟩
end
end Go.Proofs.YtkilalabmbdmkaaDoor.Ev

/-
Code: heights and levels, step by step.
-/
namespace Go.Proofs.YtkilalabmbdmkaaDoor.Ev
section
set_option linter.unusedVariables false
set_option linter.unusedSimpArgs false
open Go Go.RowKit
set_option linter.unusedVariables false
set_option linter.unusedSimpArgs false
/-- How an instruction changes the number of terms, of loops. -/
def dH (s : List UInt8) : Int := if begM s = true then 0 else if endM s = true then -1 else 1 - arM s
def dL (s : List UInt8) : Int := if begM s = true then 1 else if endM s = true then -1 else 0
theorem doP_len {s : List UInt8} {p p' : PS} (h : doP s p = some p') : (p'.st.length : Int) = p.st.length + dH s ∧ (p'.lp.length : Int) = p.lp.length + dL s := by
  obtain ⟨st, lp⟩ := p
  unfold doP at h
  split at h
  · rename_i a
    have hb : begM [a] = false := rfl
    split at h
    · rename_i hd
      obtain rfl := Option.some.inj h
      have h1 := dig_not_one hd
      have h2 := not_end (.inr (.inr (.inl hd)))
      have h3 : endM [a] = false := by simpa [endM] using h2
      have h4 : arM [a] = 0 := by simp [arM, h1]
      simp only [dH, dL, hb, h3, h4, Bool.false_eq_true, if_false, List.length_cons]
      omega
    split at h
    · rename_i hd
      obtain rfl := Option.some.inj h
      have h1 := var_not_one hd
      have h2 := not_end (.inr (.inr (.inr hd)))
      have h3 : endM [a] = false := by simpa [endM] using h2
      have h4 : arM [a] = 0 := by simp [arM, h1]
      simp only [dH, dL, hb, h3, h4, Bool.false_eq_true, if_false, List.length_cons]
      omega
    split at h
    · rename_i hd
      have h2 := not_end (.inl hd)
      have h3 : endM [a] = false := by simpa [endM] using h2
      have h4 : arM [a] = 1 := by simp [arM, hd]
      split at h
      · rename_i x s1 h1
        obtain rfl := Option.some.inj h
        obtain ⟨h5, _⟩ := popP_some h1
        simp only at h5
        simp only [dH, dL, hb, h3, h4, h5, Bool.false_eq_true, if_false, List.length_cons]
        omega
      · cases h
    split at h
    · rename_i h0 hd
      have h2 := not_end (.inr (.inl hd))
      have h3 : endM [a] = false := by simpa [endM] using h2
      have h4 : arM [a] = 2 := by simp [arM, hd, h0]
      split at h
      · rename_i y s1 h1
        split at h
        · rename_i x s2 h6
          obtain rfl := Option.some.inj h
          obtain ⟨h5, _⟩ := popP_some h1
          obtain ⟨h7, _⟩ := popP_some h6
          simp only at h5 h7
          simp only [dH, dL, hb, h3, h4, h5, h7, Bool.false_eq_true, if_false, List.length_cons]
          omega
        · cases h
      · cases h
    split at h
    · rename_i he
      have h3 : endM [a] = true := by simpa [endM] using he
      cases lp with
      | nil => cases h
      | cons q lp =>
        obtain ⟨c, v, b⟩ := q
        simp only [endP] at h
        split at h
        · rename_i hc
          split at h
          · rename_i y s1 h1
            split at h
            · rename_i x s2 h6
              obtain rfl := Option.some.inj h
              obtain ⟨h5, _⟩ := popP_some h1
              obtain ⟨h7, _⟩ := popP_some h6
              simp only [dH, dL, hb, h3, h5, h7, Bool.false_eq_true, if_false, if_true, List.length_cons]
              omega
            · cases h
          · cases h
        · cases h
    · cases h
  · rename_i a v
    split at h
    · rename_i hc
      split at h
      · obtain rfl := Option.some.inj h
        have h3 : begM [a, v] = true := by simpa [begM] using hc.1
        simp only [dH, dL, h3, if_true, List.length_cons]
        omega
      · cases h
    · cases h
  · cases h
theorem dH_le (s : List UInt8) : dH s ≤ 1 := by
  unfold dH
  split
  · omega
  split
  · omega
  · have : 0 ≤ arM s := by
      unfold arM
      split
      · split
        · omega
        · split <;> omega
      · omega
    omega
theorem dL_le (s : List UInt8) : dL s ≤ 1 := by
  unfold dL
  split
  · omega
  split <;> omega
/-- Heights and levels as the implementation counts them. -/
def hsI : Int → List (List UInt8) → List Int
  | _, [] => []
  | h, s :: l => (h + dH s) :: hsI (h + dH s) l
def lsI : Int → List (List UInt8) → List Int
  | _, [] => []
  | v, s :: l => (if endM s = true then v - 1 else v) :: lsI (v + dL s) l
theorem beg_end {s : List UInt8} (h : begM s = true) : endM s = false := by
  unfold begM at h
  split at h
  · rfl
  · cases h
theorem runP_lists : ∀ {l : List (List UInt8)} {p q : PS} {hs ls : List Nat}, runP l p = some (q, hs, ls) → hs.map Int.ofNat = hsI p.st.length l ∧ ls.map Int.ofNat = lsI p.lp.length l
  | [], p, q, hs, ls, h => by
    simp only [runP, Option.some.injEq, Prod.mk.injEq] at h
    obtain ⟨_, rfl, rfl⟩ := h
    exact ⟨rfl, rfl⟩
  | s :: l, p, q, hs, ls, h => by
    simp only [runP] at h
    split at h
    · rename_i p' h1
      split at h
      · rename_i q' hs' ls' h2
        simp only [Option.some.injEq, Prod.mk.injEq] at h
        obtain ⟨_, rfl, rfl⟩ := h
        obtain ⟨k1, k2⟩ := runP_lists h2
        obtain ⟨e1, e2⟩ := doP_len h1
        simp only [List.map_cons, hsI, lsI, k1, k2, ← e1, ← e2]
        refine ⟨rfl, ?_⟩
        congr 1
        show ((min p.lp.length p'.lp.length : Nat) : Int) = _
        unfold dL at e2
        by_cases hb : begM s = true
        · rw [if_pos hb] at e2
          rw [beg_end hb]
          simp only [Bool.false_eq_true, if_false]
          omega
        · rw [if_neg hb] at e2
          split at e2
          · rename_i he
            rw [if_pos he]
            omega
          · rename_i he
            rw [if_neg he]
            omega
      · cases h
    · cases h
end
end Go.Proofs.YtkilalabmbdmkaaDoor.Ev

/-
Code: the reference's builder over all instructions.
-/
namespace Go.Proofs.YtkilalabmbdmkaaDoor.Ev
section
set_option linter.unusedVariables false
set_option linter.unusedSimpArgs false
open Go Go.RowKit
set_option linter.unusedVariables false
set_option linter.unusedSimpArgs false
def own : AV → List Nat
  | .w id _ _ => [id]
  | _ => []
theorem own_other {σ : Sto} {key E sz n : Nat} {v : AV} {cs : List AV} {i : Nat} (h1 : i ≠ key) (h2 : i ∉ own v) : appSto σ key E sz v n cs i = σ i := by
  refine appSto_other h1 fun id lo k hd he => ?_
  subst hd
  exact h2 (by simp [own, he])
theorem lst_frame {σ τ : Sto} {nx nx' E sz n : Nat} {v : AV} {cs : List AV} (h : Lst σ nx E sz v n cs) (hs : ∀ i ∈ own v, τ i = σ i) (hn : nx ≤ nx') : Lst τ nx' E sz v n cs := by
  rcases h with h | ⟨id, h1, rfl, h2, h3⟩
  · exact .inl h
  · exact .inr ⟨id, by omega, rfl, by rw [hs id (by simp [own]), h2], h3⟩
theorem lst_own {σ : Sto} {nx E sz n : Nat} {v : AV} {cs : List AV} (h : Lst σ nx E sz v n cs) : ∀ i ∈ own v, i < nx := by
  intro i hi
  rcases h with ⟨rfl, h⟩ | ⟨id, h1, rfl, h2, h3⟩
  · simp [own] at hi
  · simp only [own, List.mem_singleton] at hi
    omega
def nats (l : List Nat) : List AV := l.map fun (n : Nat) => N (n : Int)
theorem nats_len (l : List Nat) : (nats l).length = l.length := by simp [nats]
/-- What stands before a round of the loop: e 6: the builder, e 7: heights, e 8: levels, e 23: the instructions. -/
structure BLp (k2 kb kL : Nat) (L : List (List UInt8)) (i : Nat) (hs ls : List Nat) (p : PS) (a b c : RS) (ds : List AV) (Ls : List Nat) (e : Nat → AV) (σ : Sto) (nx : Nat) : Prop where
  br : BR p a b c
  inv : InvP p
  e6 : e 6 = .r kb 0
  sb : σ kb = some (.ob 84 ds)
  rw : RwL σ [a, b, c] ds Ls
  nd : (kb :: Ls).Nodup
  kbn : kb < nx
  Lsn : ∀ r ∈ Ls, r < nx
  e23 : e 23 = .w kL 0 L.length
  sL : σ kL = some (.row 9 1 L.length (strs L))
  kLn : kL < nx
  kL1 : kL ≠ kb
  kL2 : kL ∉ Ls
  e24 : e 24 = N L.length
  e25 : e 25 = N i
  h7 : Lst σ nx 3 1 (e 7) hs.length (nats hs)
  h8 : Lst σ nx 3 1 (e 8) ls.length (nats ls)
  o7 : ∀ j ∈ own (e 7), j ≠ kb ∧ j ∉ Ls ∧ j ≠ kL ∧ j ≠ k2 ∧ j ∉ own (e 8)
  o8 : ∀ j ∈ own (e 8), j ≠ kb ∧ j ∉ Ls ∧ j ≠ kL ∧ j ≠ k2
  e2 : e 2 = .r k2 0
  s2 : σ k2 = some (.ob 33 zeroN)
  k2n : k2 < nx
  k21 : k2 ≠ kb
  k22 : k2 ∉ Ls
  k23 : k2 ≠ kL
theorem l7Build_loop (k2 kb kL : Nat) (L : List (List UInt8)) (hL : L.length < 100000000) : ∀ (r : List (List UInt8)) (i n : Nat) (hs ls : List Nat) (p : PS) (a b c : RS) (ds : List AV) (Ls : List Nat) (e : Nat → AV) (σ : Sto) (nx : Nat) (q : Option (Ex × St)),
    L.drop i = r → i ≤ L.length → r.length < n → p.st.length ≤ i → p.lp.length ≤ i → hs.length ≤ i → ls.length ≤ i → BLp k2 kb kL L i hs ls p a b c ds Ls e σ nx →
    roundsE (evC II EE (withOpt [] pf) MX (bodyL Tryd.f36 0)) n ⟨e, σ, nx⟩ = q →
    match runP r p with
    | some (p', hs', ls') => ∃ e' σ' nx' a' b' c' ds' Ls', q = some (.exit 0, ⟨e', σ', nx'⟩) ∧ BLp k2 kb kL L L.length (hs ++ hs') (ls ++ ls') p' a' b' c' ds' Ls' e' σ' nx'
    | none => ∃ e' σ' nx', q = some (.ret, ⟨e', σ', nx'⟩) ∧ e' 2 = .r k2 0 ∧ σ' k2 = some (.ob 33 zeroN) ∧ e' 3 = .s true 0 [] ∧ e' 4 = .s true 0 [] ∧ e' 5 = B false := by
  intro r
  induction r with
  | nil =>
    intro i n hs ls p a b c ds Ls e σ nx q hd hiL hn hp1 hp2 hh1 hh2 hB hq
    have hlen : L.length ≤ i := by simpa using hd
    have hiE : i = L.length := by omega
    subst hiE
    obtain ⟨k, rfl⟩ : ∃ k, n = k + 1 := ⟨n - 1, by omega⟩
    rw [rounds_rd] at hq
    have hc : ¬ ((L.length : Int) < (L.length : Int)) := by omega
    have h24 := hB.e24
    have h25 := hB.e25
    simp only [bodyL, bodyOf, Tryd.f36, SA, loops, List.nil_append, List.append_nil, List.cons_append, List.getD_cons_zero, List.getD_cons_succ] at hq
    simp only [h24, h25, hc, IA, PA, RA0, RA1, RA2, RA3, RA4, RA5, RA6, RA7, RA8, RA9, RA10, Nat.reduceAdd, Nat.reduceMul, Nat.reduceEqDiff, Nat.reduceLeDiff, Nat.reduceLT, Int.reduceToNat, Int.reduceLT, Int.reduceLE, Int.reduceEq, Int.reduceNeg, Int.reduceAdd, Int.reduceSub, Int.reduceMul, reduceIte] at hq
    refine ⟨_, _, _, a, b, c, ds, Ls, hq.symm, ?_⟩
    have h7 := hB.h7
    have h8 := hB.h8
    simp only [List.append_nil]
    exact ⟨hB.br, hB.inv, hB.e6, hB.sb, hB.rw, hB.nd, by have := hB.kbn; omega, fun r hr => by have := hB.Lsn r hr; omega, hB.e23, hB.sL, by have := hB.kLn; omega, hB.kL1, hB.kL2, h24, h25, lst_mono h7 (by omega), lst_mono h8 (by omega), hB.o7, hB.o8, hB.e2, hB.s2, by have := hB.k2n; omega, hB.k21, hB.k22, hB.k23⟩
  | cons x r ih =>
    intro i n hs ls p a b c ds Ls e σ nx q hd hiL hn hp1 hp2 hh1 hh2 hB hq
    obtain ⟨hi, hx, hd'⟩ := strs_drop_head hd
    obtain ⟨k, rfl⟩ : ∃ k, n = k + 1 := ⟨n - 1, by omega⟩
    rw [rounds_rd] at hq
    have hc : ((i : Int) < (L.length : Int)) := by omega
    have hz : (0 : Int) ≤ (i : Int) := by omega
    have hw : IntKind.i64.wrap ((i : Int) + 1) = ((i + 1 : Nat) : Int) := by rw [wrap64 (by omega) (by omega)]; rfl
    have hhd : ((strs L).drop i).head? = some (S x) := by rw [strs_drop, hd]; rfl
    have hdo := do_br hB.br hB.inv x (by omega) (by omega)
    obtain ⟨rr, a', b', c', ha', hb', hc', hE, hres⟩ := hdo
    have h6 := hB.e6
    have h23 := hB.e23
    have h24 := hB.e24
    have h25 := hB.e25
    have hsL := hB.sL
    have hsb := hB.sb
    have hR := hB.rw
    have hleaf := hR.leaf
    have hnd := hB.nd
    obtain ⟨da, db, dc, La, Lb, Lc, rfl, rfl, ra, rb, rc⟩ := rw3 hR
    simp only [bodyL, bodyOf, Tryd.f36, SA, loops, List.nil_append, List.append_nil, List.cons_append, List.getD_cons_zero, List.getD_cons_succ] at hq
    simp only [h6, h23, h24, h25, hsL, hsb, hc, hz, hw, hhd, len_rw rb, Int.toNat_natCast, Nat.mul_one, Nat.zero_add, RR, IA, PA, RA0, RA1, RA2, RA3, RA4, RA5, RA6, RA7, RA8, RA9, RA10, Nat.reduceAdd, Nat.reduceMul, Nat.reduceEqDiff, Nat.reduceLeDiff, Nat.reduceLT, Int.reduceToNat, Int.reduceLT, Int.reduceLE, Int.reduceEq, Int.reduceNeg, Int.reduceAdd, Int.reduceSub, Int.reduceMul, reduceIte] at hq
    have hkbn := hB.kbn
    have hok := in3 ha' hb' hc'
    rw [call_ob_eq (os' := [a', b', c']) (by rfl) hsb hleaf hnd (by rfl) (by exact hE) hok (by rfl) (Nat.le_of_ble_eq_true rfl)] at hq
    generalize hτ : aftS _ _ _ _ _ _ = τ at hq
    obtain ⟨ds1, L1, f1, f2, f3, f4, f5⟩ := aft_of hτ hok (by omega)
    clear hτ
    simp only [List.length_cons, List.length_nil] at f4 f5
    simp only [runP]
    cases hdp : doP x p with
    | none =>
      rw [hdp] at hres
      simp only at hres
      subst hres
      have h2 := hB.e2
      have hs2 : τ k2 = some (.ob 33 zeroN) := by rw [f5 k2 hB.k21 hB.k22 (.inl (by have := hB.k2n; omega))]; exact hB.s2
      simp only [f1, h2, hs2, zeroN, TMA, RR, IA, PA, RA0, RA1, RA2, RA3, RA4, RA5, RA6, RA7, RA8, RA9, RA10, Nat.reduceAdd, Nat.reduceMul, Nat.reduceEqDiff, Nat.reduceLeDiff, Nat.reduceLT, Int.reduceToNat, Int.reduceLT, Int.reduceLE, Int.reduceEq, Int.reduceNeg, Int.reduceAdd, Int.reduceSub, Int.reduceMul, reduceIte] at hq
      refine ⟨_, _, _, hq.symm, by simpa using h2, ?_, rfl, rfl, rfl⟩
      simp only [upd, if_true]
      rfl
    | some p' =>
      rw [hdp] at hres
      obtain ⟨hrt, hbr⟩ := hres
      subst hrt
      obtain ⟨da1, db1, dc1, La1, Lb1, Lc1, rfl, rfl, ra1, rb1, rc1⟩ := rw3 f2
      have h7 := hB.h7
      have h8 := hB.h8
      have hbn := hB.br.bn
      have hbn1 := hbr.bn
      have han1 := hbr.an
      have h6b := hB.e6
      simp only [f1, h6b, len_rw rb1, RR, IA, PA, RA0, RA1, RA2, RA3, RA4, RA5, RA6, RA7, RA8, RA9, RA10, Nat.reduceAdd, Nat.reduceMul, Nat.reduceEqDiff, Nat.reduceLeDiff, Nat.reduceLT, Int.reduceToNat, Int.reduceLT, Int.reduceLE, Int.reduceEq, Int.reduceNeg, Int.reduceAdd, Int.reduceSub, Int.reduceMul, reduceIte] at hq
      have hmin : (if (b'.n : Int) < (b.n : Int) then (b'.n : Int) else (b.n : Int)) = ((min p.lp.length p'.lp.length : Nat) : Int) := by
        rw [hbn, hbn1]
        split <;> omega
      have hls : ls.length + 1 < 1000000000 := by omega
      have hhs : hs.length + 1 < 1000000000 := by omega
      have hkeep : ∀ j, j ≠ kb → j ∉ La ++ (Lb ++ Lc) → j < nx → τ j = σ j := fun j h1 h2 h3 => f5 j h1 h2 (.inl (by omega))
      have hl8 : Lst τ nx 3 1 (e 8) ls.length (nats ls) := lst_frame h8 (fun j hj => hkeep j (hB.o8 j hj).1 (hB.o8 j hj).2.1 (lst_own h8 j hj)) (Nat.le_refl _)
      have hl7 : Lst τ nx 3 1 (e 7) hs.length (nats hs) := lst_frame h7 (fun j hj => hkeep j (hB.o7 j hj).1 (hB.o7 j hj).2.1 (lst_own h7 j hj)) (Nat.le_refl _)
      rw [hmin, lst_app hl8 (by decide) (by rfl) (by rfl) (by decide) (by omega) (by omega) (by omega)] at hq
      generalize hτ2 : appSto _ _ _ _ (e 8) _ _ = τ2 at hq
      have t1 := (congrFun hτ2 _).symm.trans (appSto_key ..)
      have t2 : ∀ j, j ≠ _ → j ∉ own (e 8) → τ2 j = τ j := fun j h1 h2 => (congrFun hτ2 j).symm.trans (own_other h1 h2)
      clear hτ2
      have hL1o : ∀ j ∈ La1 ++ (Lb1 ++ Lc1), j ∉ own (e 8) := fun j hj h => by have := f4 j hj; have := lst_own h8 j h; omega
      have t3 : τ2 kb = some (.ob 84 [da1, db1, dc1]) := by rw [t2 kb (by omega) (fun h => (hB.o8 kb h).1 rfl), f1]
      have ra2 : Rw τ2 a' da1 La1 := ra1.frame fun r hr => t2 r (by have := f4 r (by simp [hr]); omega) (hL1o r (by simp [hr]))
      have hl72 : Lst τ2 nx 3 1 (e 7) hs.length (nats hs) := lst_frame hl7 (fun j hj => t2 j (by have := lst_own h7 j hj; omega) (hB.o7 j hj).2.2.2.2) (Nat.le_refl _)
      simp only [t3, h6b, len_rw ra2, RR, IA, PA, RA0, RA1, RA2, RA3, RA4, RA5, RA6, RA7, RA8, RA9, RA10, Nat.reduceAdd, Nat.reduceMul, Nat.reduceEqDiff, Nat.reduceLeDiff, Nat.reduceLT, Int.reduceToNat, Int.reduceLT, Int.reduceLE, Int.reduceEq, Int.reduceNeg, Int.reduceAdd, Int.reduceSub, Int.reduceMul, reduceIte] at hq
      rw [lst_app hl72 (by decide) (by rfl) (by rfl) (by decide) (by omega) (by omega) (by omega)] at hq
      generalize hτ3 : appSto _ _ _ _ (e 7) _ _ = τ3 at hq
      have u1 := (congrFun hτ3 _).symm.trans (appSto_key ..)
      have u2 : ∀ j, j ≠ _ → j ∉ own (e 7) → τ3 j = τ2 j := fun j h1 h2 => (congrFun hτ3 j).symm.trans (own_other h1 h2)
      clear hτ3
      simp only [h25, hw, RR, IA, PA, RA0, RA1, RA2, RA3, RA4, RA5, RA6, RA7, RA8, RA9, RA10, Nat.reduceAdd, Nat.reduceMul, Nat.reduceEqDiff, Nat.reduceLeDiff, Nat.reduceLT, Int.reduceToNat, Int.reduceLT, Int.reduceLE, Int.reduceEq, Int.reduceNeg, Int.reduceAdd, Int.reduceSub, Int.reduceMul, reduceIte] at hq
      have hfin : ∀ j, j < nx + 4 + 12 + 24 + 16 → j ∉ own (e 7) → j ∉ own (e 8) → τ3 j = τ j := fun j h1 h2 h3 => by rw [u2 j (by omega) h2, t2 j (by omega) h3]
      have hL1o7 : ∀ j ∈ La1 ++ (Lb1 ++ Lc1), j ∉ own (e 7) := fun j hj h => by have := f4 j hj; have := lst_own h7 j h; omega
      obtain ⟨q1, q2⟩ := doP_len hdp
      have q3 := dH_le x
      have q4 := dL_le x
      have hN1 : ∀ j ∈ own (e 7), j < nx := lst_own h7
      have hN2 : ∀ j ∈ own (e 8), j < nx := lst_own h8
      have hf1 : ∀ j ∈ La1 ++ (Lb1 ++ Lc1), τ3 j = τ j := fun j hj => hfin j (by have := f4 j hj; omega) (hL1o7 j hj) (hL1o j hj)
      have hkL := hB.kLn
      have hk2 := hB.k2n
      have hL1k : ∀ (j : Nat), j < nx → j ∉ La1 ++ (Lb1 ++ Lc1) := fun j hj hm => by have := f4 j hm; omega
      have key := fun hh => ih (i + 1) k (hs ++ [p'.st.length]) (ls ++ [min p.lp.length p'.lp.length]) p' a' b' c' [da1, db1, dc1] (La1 ++ (Lb1 ++ Lc1)) _ τ3 _ q hd' (by omega) (by simpa using hn) (by omega) (by omega) (by simp; omega) (by simp; omega) hh hq
      have := key ⟨hbr, (doP_code hdp hB.inv).1, h6b, ?g1, ?g2, f3, by omega, fun r hr => by have := f4 r hr; omega, h23, ?g3, by omega, hB.kL1, hL1k kL hkL, h24, rfl, ?g4, ?g5, ?g6, ?g7, hB.e2, ?g8, by omega, hB.k21, hL1k k2 hk2, hB.k23⟩
      case g1 => rw [hfin kb (by omega) (fun h => (hB.o7 kb h).1 rfl) (fun h => (hB.o8 kb h).1 rfl), f1]
      case g2 => exact (rw3_mk ra1 rb1 rc1).frame hf1
      case g3 => rw [hfin kL (by omega) (fun h => (hB.o7 kL h).2.2.1 rfl) (fun h => (hB.o8 kL h).2.2.1 rfl), hkeep kL hB.kL1 hB.kL2 hkL, hsL]
      case g8 => rw [hfin k2 (by omega) (fun h => (hB.o7 k2 h).2.2.2.1 rfl) (fun h => (hB.o8 k2 h).2.2.2 rfl), hkeep k2 hB.k21 hB.k22 hk2, hB.s2]
      case g4 =>
        have e7 : nats (hs ++ [p'.st.length]) = nats hs ++ [AV.v (Value.int IntKind.i64 (a'.n : Int))] := by rw [han1]; simp [nats]
        rw [e7]
        simp only [List.length_append, List.length_cons, List.length_nil]
        exact .inr ⟨_, by omega, rfl, u1, by simp [nats]⟩
      case g5 =>
        have e8 : nats (ls ++ [min p.lp.length p'.lp.length]) = nats ls ++ [AV.v (Value.int IntKind.i64 ((min p.lp.length p'.lp.length : Nat) : Int))] := by simp [nats]
        rw [e8]
        simp only [List.length_append, List.length_cons, List.length_nil]
        refine .inr ⟨_, by omega, rfl, ?_, by simp [nats]⟩
        rw [u2 _ (by omega) (fun h => by have := hN1 _ h; omega), t1]
      case g6 =>
        intro j hj
        have hj : j ∈ [nx + 4 + 12 + 24 + 16 + 44 + 28] := hj
        simp only [List.mem_singleton] at hj
        subst hj
        refine ⟨by omega, fun h => by have := f4 _ h; omega, by omega, by omega, ?_⟩
        show _ ∉ [nx + 4 + 12 + 24 + 16 + 36]
        simp
      case g7 =>
        intro j hj
        have hj : j ∈ [nx + 4 + 12 + 24 + 16 + 36] := hj
        simp only [List.mem_singleton] at hj
        subst hj
        exact ⟨by omega, fun h => by have := f4 _ h; omega, by omega, by omega⟩
      cases hrp : runP r p' with
      | none =>
        rw [hrp] at this
        simp only [hrp]
        exact this
      | some w =>
        obtain ⟨p2, hs2, ls2⟩ := w
        rw [hrp] at this
        simp only [hrp]
        simpa only [List.append_assoc, List.cons_append, List.nil_append] using this
end
end Go.Proofs.YtkilalabmbdmkaaDoor.Ev

/-
Code: the reference's term of code, with heights and levels.
-/
namespace Go.Proofs.YtkilalabmbdmkaaDoor.Ev
section
set_option linter.unusedVariables false
set_option linter.unusedSimpArgs false
open Go Go.RowKit
set_option linter.unusedVariables false
set_option linter.unusedSimpArgs false
theorem text_list : ∀ t, (textT t).length ≤ 5 * (listT t).length
  | .dig c => by simp [textT, listT]
  | .var c => by simp [textT, listT]
  | .one s x => by have := text_list x; simp only [textT, listT, List.length_append, List.length_cons, List.length_nil]; omega
  | .two s x y => by have := text_list x; have := text_list y; simp only [textT, listT, List.length_append, List.length_cons, List.length_nil]; omega
  | .loop s v x y => by have := text_list x; have := text_list y; simp only [textT, listT, List.length_append, List.length_cons, List.length_nil]; omega
theorem adopt_nb (σ : Sto) (key : Nat) (x : T) (b : Bool) : adopt σ key (.t [.a (encN x), B b]) = some (.t [.a (encN x), B b], σ) := adopt_two (by simp only [closed, encN_closed]) rfl
theorem adopt_zb (σ : Sto) (key : Nat) (b : Bool) : adopt σ key (.t [.a zc, B b]) = some (.t [.a zc, B b], σ) := adopt_two rfl rfl
theorem zc_len : zc.length = 3 := rfl
theorem zc_leaf : zc.all leafOk = true := rfl
theorem T_specTermValid : TT 65 = some (Tryd.f65, bodyOf Tryd.f65) := by kernel_rfl
theorem specTermValid_ev (t : List UInt8) (hl : t.length < 4611686018427387904) : EE 65 [S t] = some (B (rdT t).isSome) := by
  refine EE_plain T_specTermValid (by decide) (Nat.le_of_ble_eq_true rfl) rfl ?_
  rw [show opt 65 = [] from rfl]
  simp only [bodyOf, Tryd.f65, SA]
  have h := l5Read_ev t hl
  cases hr : rdT t with
  | none =>
    rw [hr] at h
    simp only [h, adopt_zb, zc_len, zc_leaf, TMA, IA, PA, RA0, RA1, RA2, RA3, RA4, RA5, RA6, RA7, RA8, RA9, RA10, Nat.reduceAdd, Nat.reduceMul, Nat.reduceEqDiff, Nat.reduceLeDiff, Nat.reduceLT, Int.reduceToNat, Int.reduceLT, Int.reduceLE, Int.reduceEq, Int.reduceNeg, Int.reduceAdd, Int.reduceSub, Int.reduceMul, reduceIte]
    rfl
  | some x =>
    rw [hr] at h
    simp only [h, adopt_nb, TMA, IA, PA, RA0, RA1, RA2, RA3, RA4, RA5, RA6, RA7, RA8, RA9, RA10, Nat.reduceAdd, Nat.reduceMul, Nat.reduceEqDiff, Nat.reduceLeDiff, Nat.reduceLT, Int.reduceToNat, Int.reduceLT, Int.reduceLE, Int.reduceEq, Int.reduceNeg, Int.reduceAdd, Int.reduceSub, Int.reduceMul, reduceIte]
    rfl
def rs0 (E sz : Nat) : RS := ⟨false, E, sz, 0, []⟩
theorem rs0_ok (E sz : Nat) : rsOk (rs0 E sz) := ⟨by simp [rs0], rfl, fun _ => ⟨rfl, rfl⟩⟩
theorem br0 : BR ⟨[], []⟩ (rs0 33 3) (rs0 9 1) (rs0 3 1) :=
  ⟨⟨rs0_ok _ _, rs0_ok _ _, rs0_ok _ _, rfl, rfl, rfl, rfl, rfl, rfl, by decide, by decide, by decide⟩, rfl, rfl, rfl, rfl, rfl, rfl⟩
/-- What the reference's builder gives. -/
def buildR : Option (T × List Nat × List Nat) → AV
  | some (t, hs, ls) => .t [.a (encN t), .o 3 1 hs.length (nats hs), .o 3 1 ls.length (nats ls), B true]
  | none => .t [.a zeroN, .s true 0 [], .s true 0 [], B false]
theorem give4 {σ : Sto} {x y : AV} {i j n m E sz : Nat} {cs ds : List AV} (hx : closed x = true) (hy : closed y = true) (hi : σ i = some (.row E sz n cs)) (hj : σ j = some (.row E sz m ds)) (hc : closedL cs = true) (hd : closedL ds = true) (hne : i ≠ j) :
    giveAll σ [x, .w i 0 n, .w j 0 m, y] = some (.t [x, .o E sz n cs, .o E sz m ds, y]) := by
  unfold giveAll
  simp only [giveL, give1_closed hx, give1_closed hy, give1_w hi (Nat.le_refl _) hc, give1_w hj (Nat.le_refl _) hd, Option.bind_some, Option.map_some, List.nil_append, List.append_nil, tk, if_true]
  rw [if_pos ⟨by simpa using hne, by simp⟩]
theorem nats_closed (l : List Nat) : closedL (nats l) = true := by
  induction l with
  | nil => rfl
  | cons x l ih => simpa [nats, closedL, closed] using ih
theorem runP_n : ∀ {l : List (List UInt8)} {p q : PS} {hs ls : List Nat}, runP l p = some (q, hs, ls) → hs.length = l.length ∧ ls.length = l.length
  | [], p, q, hs, ls, h => by
    simp only [runP, Option.some.injEq, Prod.mk.injEq] at h
    obtain ⟨_, rfl, rfl⟩ := h
    exact ⟨rfl, rfl⟩
  | s :: l, p, q, hs, ls, h => by
    simp only [runP] at h
    split at h
    · split at h
      · rename_i h2
        simp only [Option.some.injEq, Prod.mk.injEq] at h
        obtain ⟨_, rfl, rfl⟩ := h
        obtain ⟨k1, k2⟩ := runP_n h2
        simp [k1, k2]
      · cases h
    · cases h
theorem l7Build_ev (code : List UInt8) (hl : code.length < 50000000) : EE 36 [S code] = some (buildR (specB code)) := by
  refine EE_plain T_l7Build (by decide) (Nat.le_of_ble_eq_true rfl) rfl ?_
  rw [show opt 36 = [] from rfl]
  simp only [bodyOf, Tryd.f36, SA]
  by_cases h200 : 200 < code.length
  · have hc : ((200 : Int) < (code.length : Int)) := by omega
    simp only [specB, h200, hc, buildR, RR, IA, PA, RA0, RA1, RA2, RA3, RA4, RA5, RA6, RA7, RA8, RA9, RA10, Nat.reduceAdd, Nat.reduceMul, Nat.reduceEqDiff, Nat.reduceLeDiff, Nat.reduceLT, Int.reduceToNat, Int.reduceLT, Int.reduceLE, Int.reduceEq, Int.reduceNeg, Int.reduceAdd, Int.reduceSub, Int.reduceMul, reduceIte]
    exact giveAll_two rfl
  · have hc : ¬ ((200 : Int) < (code.length : Int)) := by omega
    have hcut := l13Cut_ev code 32 (by omega)
    have hu : U 32 = .v (.int .u8 32) := rfl
    have hcl := cutL_len 32 code
    rw [hu] at hcut
    simp only [hc, hcut, strs_closed, RR, IA, PA, RA0, RA1, RA2, RA3, RA4, RA5, RA6, RA7, RA8, RA9, RA10, Nat.reduceAdd, Nat.reduceMul, Nat.reduceEqDiff, Nat.reduceLeDiff, Nat.reduceLT, Int.reduceToNat, Int.reduceLT, Int.reduceLE, Int.reduceEq, Int.reduceNeg, Int.reduceAdd, Int.reduceSub, Int.reduceMul, reduceIte]
    generalize hq : roundsE _ _ _ = q
    have key := fun hh => l7Build_loop 0 20 60 (cutL 32 code) (by omega) (cutL 32 code) 0 MX [] [] ⟨[], []⟩ (rs0 33 3) (rs0 9 1) (rs0 3 1) [.s true 0 [], .s true 0 [], .s true 0 []] [] _ _ _ q rfl (Nat.zero_le _) (lt_MX (by omega)) (Nat.le_refl _) (Nat.le_refl _) (Nat.le_refl _) (Nat.le_refl _) hh hq
    have hrw : ∀ σ, RwL σ [rs0 33 3, rs0 9 1, rs0 3 1] [.s true 0 [], .s true 0 [], .s true 0 []] [] := fun σ => .no (rs0_ok _ _) rfl (.no (rs0_ok _ _) rfl (.no (rs0_ok _ _) rfl .nil))
    have hnone : ∀ j ∈ own (.s true 0 []), False := fun j hj => by simp [own] at hj
    have hloop := key ⟨br0, ⟨Nat.le_refl _, trivial, fun t h => absurd h List.not_mem_nil⟩, rfl, rfl, hrw _, by simp, by decide, fun r h => absurd h List.not_mem_nil, rfl, rfl, by decide, by decide, List.not_mem_nil, rfl, rfl, lst_nil _ _ _ _, lst_nil _ _ _ _, fun j hj => (hnone j hj).elim, fun j hj => (hnone j hj).elim, rfl, rfl, by decide, by decide, List.not_mem_nil, by decide⟩
    clear key hq
    cases hrp : runP (cutL 32 code) ⟨[], []⟩ with
    | none =>
      rw [hrp] at hloop
      obtain ⟨e', σ', nx', rfl, h2, hs2, h3, h4, h5⟩ := hloop
      simp only [specB, h200, hrp, h2, hs2, h3, h4, h5, zeroN, buildR, RR, IA, PA, RA0, RA1, RA2, RA3, RA4, RA5, RA6, RA7, RA8, RA9, RA10, Nat.reduceAdd, Nat.reduceMul, Nat.reduceEqDiff, Nat.reduceLeDiff, Nat.reduceLT, Int.reduceToNat, Int.reduceLT, Int.reduceLE, Int.reduceEq, Int.reduceNeg, Int.reduceAdd, Int.reduceSub, Int.reduceMul, reduceIte]
      exact giveAll_two rfl
    | some w =>
      obtain ⟨p', hs, ls⟩ := w
      rw [hrp] at hloop
      obtain ⟨e', σ', nx', a, b, c, ds, Ls, rfl, hB⟩ := hloop
      simp only [List.nil_append] at hB
      have hbr := hB.br
      have ho := hbr.ok
      have h6 := hB.e6
      have hsb := hB.sb
      have h2 := hB.e2
      have hs2 := hB.s2
      have hst := hbr.an
      have hlp := hbr.bn
      obtain ⟨hcode, hlist⟩ := runP_code hrp ⟨Nat.le_refl _, trivial, fun t h => absurd h List.not_mem_nil⟩
      have hR := hB.rw
      obtain ⟨da, db, dc, La, Lb, Lc, rfl, rfl, ra, rb, rc⟩ := rw3 hR
      obtain ⟨st, lp⟩ := p'
      simp only at hst hlp
      by_cases hn1 : st.length = 1
      · have hd1 : ((a.n : Int) = 1) := by omega
        by_cases hl0 : lp = []
        · subst hl0
          obtain ⟨t, rfl⟩ : ∃ t, st = [t] := by
            match st, hn1 with
            | [t], _ => exact ⟨t, rfl⟩
          have hlt : ¬ ((0 : Int) < (b.n : Int)) := by rw [hlp]; simp
          have hw := hcode.hw t (by simp)
          have hlt2 : listT t = cutL 32 code := by simpa [codeP, allT] using hlist
          have htl := text_list t
          rw [hlt2] at htl
          have htx := l5Text_ev t hw (by omega)
          have htv := specTermValid_ev (textT t) (by omega)
          obtain ⟨rA, hab, rfl, rfl, haσ⟩ := ra.pos (by omega)
          have hac : a.cs = encN t := by rw [hbr.ac]; simp
          have hz2 : (0 : Int) < (a.n : Int) := by omega
          simp only [h6, hsb, h2, hs2, hd1, hlt, hz2, haσ, hac, ho.aS, htx, htv, len_rw rb, zeroN, TMA, RR, IA, PA, RA0, RA1, RA2, RA3, RA4, RA5, RA6, RA7, RA8, RA9, RA10, Nat.reduceAdd, Nat.reduceMul, Nat.reduceEqDiff, Nat.reduceLeDiff, Nat.reduceLT, Int.reduceToNat, Int.reduceLT, Int.reduceLE, Int.reduceEq, Int.reduceNeg, Int.reduceAdd, Int.reduceSub, Int.reduceMul, reduceIte]
          by_cases h80 : (textT t).length ≤ 80
          · have hrd := rdT_of hw h80
            have hne : cutL 32 code ≠ [] := by obtain ⟨x, y, e⟩ := cutL_cons 32 code; rw [e]; simp
            obtain ⟨n1, n2⟩ := runP_n hrp
            have n3 : (cutL 32 code).length ≠ 0 := by simpa using hne
            have e1 : specB code = some (t, hs, ls) := by
              unfold specB
              rw [if_neg h200, hrp]
              simp only
              rw [if_pos h80]
            rw [hrd, e1]
            simp only [Option.isSome_some, Bool.not_true, Bool.false_eq_true, if_false, buildR]
            rcases hB.h7 with ⟨g1, g2, g3⟩ | ⟨i7, g1, g2, g3, g4⟩
            · omega
            rcases hB.h8 with ⟨k1, k2, k3⟩ | ⟨i8, k1, k2, k3, k4⟩
            · omega
            have q7 := hB.o7 i7 (by rw [g2]; simp [own])
            have q8 := hB.o8 i8 (by rw [k2]; simp [own])
            rw [g2, k2]
            refine give4 (by simp only [closed, encN_closed]) rfl ?_ ?_ (nats_closed _) (nats_closed _) ?_
            · rw [upd, if_neg (fun h => q7.2.2.2.1 h)]; exact g3
            · rw [upd, if_neg (fun h => q8.2.2.2 h)]; exact k3
            · intro h
              subst h
              exact q7.2.2.2.2 (by rw [k2]; simp [own])
          · have hrd : rdT (textT t) = none := by unfold rdT; rw [if_pos (by omega)]
            have e1 : specB code = none := by
              unfold specB
              rw [if_neg h200, hrp]
              simp only
              rw [if_neg h80]
            rw [hrd, e1]
            simp only [Option.isSome_none, Bool.not_false, if_true, buildR]
            exact giveAll_two rfl
        · have hlt : ((0 : Int) < (b.n : Int)) := by
            have : lp.length ≠ 0 := by simpa using hl0
            omega
          have e1 : specB code = none := by
            unfold specB
            rw [if_neg h200, hrp]
            obtain ⟨t, rfl⟩ : ∃ t, st = [t] := by
              match st, hn1 with
              | [t], _ => exact ⟨t, rfl⟩
            cases lp with
            | nil => exact absurd rfl hl0
            | cons q l => rfl
          rw [e1]
          simp only [h6, hsb, h2, hs2, hd1, hlt, buildR, len_rw ra, len_rw rb, zeroN, TMA, RR, IA, PA, RA0, RA1, RA2, RA3, RA4, RA5, RA6, RA7, RA8, RA9, RA10, Nat.reduceAdd, Nat.reduceMul, Nat.reduceEqDiff, Nat.reduceLeDiff, Nat.reduceLT, Int.reduceToNat, Int.reduceLT, Int.reduceLE, Int.reduceEq, Int.reduceNeg, Int.reduceAdd, Int.reduceSub, Int.reduceMul, reduceIte]
          exact giveAll_two rfl
      · have hd1 : ¬ ((a.n : Int) = 1) := by omega
        have e1 : specB code = none := by
          unfold specB
          rw [if_neg h200, hrp]
          match st, hn1 with
          | [], _ => rfl
          | x :: y :: l, _ => rfl
        rw [e1]
        simp only [h6, hsb, h2, hs2, hd1, buildR, len_rw ra, len_rw rb, zeroN, TMA, RR, IA, PA, RA0, RA1, RA2, RA3, RA4, RA5, RA6, RA7, RA8, RA9, RA10, Nat.reduceAdd, Nat.reduceMul, Nat.reduceEqDiff, Nat.reduceLeDiff, Nat.reduceLT, Int.reduceToNat, Int.reduceLT, Int.reduceLE, Int.reduceEq, Int.reduceNeg, Int.reduceAdd, Int.reduceSub, Int.reduceMul, reduceIte]
        exact giveAll_two rfl
end
end Go.Proofs.YtkilalabmbdmkaaDoor.Ev
