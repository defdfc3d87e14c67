/-
Texts Zg to Zg of the work.
-/
import Derived.Test.YtkilalabmbdmkaaDoorZZf
/-
Simplifying to the end: how often each rule was used: the law of CountRules.
-/
namespace Go.Proofs.YtkilalabmbdmkaaDoor.Ev
section
set_option linter.unusedVariables false
set_option linter.unusedSimpArgs false
open Go Go.RowKit
set_option linter.unusedVariables false
set_option linter.unusedSimpArgs false
theorem T_eqIntS : TT 21 = some (Tryd.f21, bodyOf Tryd.f21) := by kernel_rfl
/-- Two slices of the same numbers. -/
theorem eqIntS_loop (x y : Bool) (L : List Int) (hL : L.length < 4611686018427387904) : ∀ (r : List Int) (i n : Nat) (e : Nat → AV) (σ : Sto) (nx : Nat) (q : Option (Ex × St)),
    L.drop i = r → r.length < n → roundsE (evC II EE (withOpt [] pf) MX (bodyL Tryd.f21 0)) n ⟨e, σ, nx⟩ = q → e 0 = .s x L.length (ints L) → e 1 = .s y L.length (ints L) → e 5 = N i →
    ∃ e' nx', q = some (.exit 0, ⟨e', σ, nx'⟩) := by
  intro r
  induction r with
  | nil =>
    intro i n e σ nx q hd hn hq h0 h1 h5
    have hlen : L.length ≤ i := by simpa using hd
    obtain ⟨k, rfl⟩ : ∃ k, n = k + 1 := ⟨n - 1, by omega⟩
    rw [rounds_rd] at hq
    have hc : ¬ ((i : Int) < (L.length : Int)) := by omega
    simp only [bodyL, bodyOf, Tryd.f21, SA, loops, List.nil_append, List.append_nil, List.cons_append, List.getD_cons_zero, List.getD_cons_succ] at hq
    simp only [h0, h1, h5, hc, IA, PA, RA0, RA1, RA2, RA3, RA4, RA5, RA6, RA7, RA8, RA9, RA10, Nat.reduceAdd, Nat.reduceMul, Nat.reduceEqDiff, Nat.reduceLeDiff, Nat.reduceLT, Int.reduceToNat, Int.reduceLT, Int.reduceLE, Int.reduceEq, Int.reduceNeg, Int.reduceAdd, Int.reduceSub, Int.reduceMul, reduceIte] at hq
    exact ⟨_, _, hq.symm⟩
  | cons z r ih =>
    intro i n e σ nx q hd hn hq h0 h1 h5
    have hi : i < L.length := by
      rcases Nat.lt_or_ge i L.length with h2 | h2
      · exact h2
      · rw [List.drop_eq_nil_of_le h2] at hd; cases hd
    have hd' : L.drop (i + 1) = r := by
      have : (L.drop i).drop 1 = r := by rw [hd]; rfl
      simpa [List.drop_drop] using this
    obtain ⟨k, rfl⟩ : ∃ k, n = k + 1 := ⟨n - 1, by omega⟩
    rw [rounds_rd] at hq
    have hc : ((i : Int) < (L.length : Int)) := by omega
    have hz : (0 : Int) ≤ (i : Int) := by omega
    have hw : IntKind.i64.wrap ((i : Int) + 1) = ((i + 1 : Nat) : Int) := by rw [wrap64 (by omega) (by omega)]; rfl
    have hhd : ((ints L).drop i).head? = some (N z) := by rw [ints_drop, hd]; rfl
    simp only [bodyL, bodyOf, Tryd.f21, SA, loops, List.nil_append, List.append_nil, List.cons_append, List.getD_cons_zero, List.getD_cons_succ] at hq
    simp only [h0, h1, h5, hc, hz, hw, hhd, Int.toNat_natCast, Nat.mul_one, RR, IA, PA, RA0, RA1, RA2, RA3, RA4, RA5, RA6, RA7, RA8, RA9, RA10, Nat.reduceAdd, Nat.reduceMul, Nat.reduceEqDiff, Nat.reduceLeDiff, Nat.reduceLT, Int.reduceToNat, Int.reduceLT, Int.reduceLE, Int.reduceEq, Int.reduceNeg, Int.reduceAdd, Int.reduceSub, Int.reduceMul, reduceIte] at hq
    exact ih (i + 1) k _ σ _ q hd' (by simpa using hn) hq h0 h1 rfl
theorem eqIntS_ev (x y : Bool) (L : List Int) (hL : L.length < 4611686018427387904) : EE 21 [.s x L.length (ints L), .s y L.length (ints L)] = some (B true) := by
  refine EE_plain T_eqIntS (by decide) (Nat.le_of_ble_eq_true rfl) (by simp only [closedL, closed, ints_closed, Bool.and_self]) ?_
  rw [show opt 21 = [] from rfl]
  simp only [bodyOf, Tryd.f21, SA]
  have hee : (((L.length : Int) = (L.length : Int)) = True) := eq_self _
  simp only [hee, RR, IA, PA, RA0, RA1, RA2, RA3, RA4, RA5, RA6, RA7, RA8, RA9, RA10, Nat.reduceAdd, Nat.reduceMul, Nat.reduceEqDiff, Nat.reduceLeDiff, Nat.reduceLT, Int.reduceToNat, Int.reduceLT, Int.reduceLE, Int.reduceEq, Int.reduceNeg, Int.reduceAdd, Int.reduceSub, Int.reduceMul, reduceIte]
  generalize hq : roundsE _ _ _ = q
  obtain ⟨e', nx', rfl⟩ := eqIntS_loop x y L hL L 0 MX _ _ _ q rfl (lt_MX (by omega)) hq rfl rfl rfl
  simp only [RR, IA, PA, RA0, RA1, RA2, RA3, RA4, RA5, RA6, RA7, RA8, RA9, RA10, Nat.reduceAdd, Nat.reduceMul, Nat.reduceEqDiff, Nat.reduceLeDiff, Nat.reduceLT, Int.reduceToNat, Int.reduceLT, Int.reduceLE, Int.reduceEq, Int.reduceNeg, Int.reduceAdd, Int.reduceSub, Int.reduceMul, reduceIte]
theorem T_markIntS : TT 22 = some (Tryd.f22, bodyOf Tryd.f22) := by kernel_rfl
theorem markIntS_loop (L : List Int) (hL : L.length < 1000000000) : ∀ (d i n : Nat) (e : Nat → AV) (σ : Sto) (nx : Nat) (q : Option (Ex × St)),
    i + d = L.length → d < n → roundsE (evC II EE (withOpt [] pf) MX (bodyL Tryd.f22 0)) n ⟨e, σ, nx⟩ = q → e 0 = .w 0 0 L.length → e 1 = N (1 + i) → e 5 = N i → 0 < nx →
    σ 0 = some (.row 3 1 L.length (ints (markL 1 i ++ L.drop i))) →
    ∃ e' σ' nx', q = some (.exit 0, ⟨e', σ', nx'⟩) ∧ e' 1 = N (1 + L.length) ∧ σ' 0 = some (.row 3 1 L.length (ints (markL 1 L.length))) := by
  intro d
  induction d with
  | zero =>
    intro i n e σ nx q hd hn hq h0 h1 h5 hnx hσ
    obtain ⟨k, rfl⟩ : ∃ k, n = k + 1 := ⟨n - 1, by omega⟩
    rw [rounds_rd] at hq
    have hc : ¬ ((i : Int) < (L.length : Int)) := by omega
    simp only [bodyL, bodyOf, Tryd.f22, SA, loops, List.nil_append, List.append_nil, List.cons_append, List.getD_cons_zero, List.getD_cons_succ] at hq
    simp only [h0, h1, h5, hc, IA, PA, RA0, RA1, RA2, RA3, RA4, RA5, RA6, RA7, RA8, RA9, RA10, Nat.reduceAdd, Nat.reduceMul, Nat.reduceEqDiff, Nat.reduceLeDiff, Nat.reduceLT, Int.reduceToNat, Int.reduceLT, Int.reduceLE, Int.reduceEq, Int.reduceNeg, Int.reduceAdd, Int.reduceSub, Int.reduceMul, reduceIte] at hq
    have hi : i = L.length := by omega
    refine ⟨_, _, _, hq.symm, ?_, ?_⟩
    · rw [← hi]; exact h1
    · rw [hσ, hi, List.drop_length, List.append_nil]
  | succ d ih =>
    intro i n e σ nx q hd hn hq h0 h1 h5 hnx hσ
    obtain ⟨k, rfl⟩ : ∃ k, n = k + 1 := ⟨n - 1, by omega⟩
    rw [rounds_rd] at hq
    have hc : ((i : Int) < (L.length : Int)) := by omega
    have hz : (0 : Int) ≤ (i : Int) := by omega
    have hw : IntKind.i64.wrap ((i : Int) + 1) = ((i + 1 : Nat) : Int) := by rw [wrap64 (by omega) (by omega)]; rfl
    have hw1 : IntKind.i64.wrap (1 + (i : Int) + 1) = 1 + ((i + 1 : Nat) : Int) := by rw [wrap64 (by omega) (by omega)]; omega
    obtain ⟨z, r, hdr⟩ : ∃ z r, L.drop i = z :: r := by
      cases h : L.drop i with
      | nil => have := congrArg List.length h; simp at this; omega
      | cons z r => exact ⟨z, r, rfl⟩
    have hdr' : L.drop (i + 1) = r := by
      have : (L.drop i).drop 1 = r := by rw [hdr]; rfl
      simpa [List.drop_drop] using this
    have hset : setRange (ints (markL 1 i ++ L.drop i)) i [N (1 + i)] = some (ints (markL 1 (i + 1) ++ L.drop (i + 1))) := by
      rw [hdr, hdr', markL_snoc, ← ints_append, ints_cons, set_at (by rw [ints_len, markL_len])]
      simp [ints]
    simp only [bodyL, bodyOf, Tryd.f22, SA, loops, List.nil_append, List.append_nil, List.cons_append, List.getD_cons_zero, List.getD_cons_succ] at hq
    rw [setRange_eq] at hset
    have hln : (ints (markL 1 i ++ L.drop i)).length = L.length := by rw [ints_len, List.length_append, markL_len, List.length_drop]; omega
    simp only [h0, h1, h5, hc, hz, hw, hw1, hσ, Int.toNat_natCast, Nat.mul_one, Nat.zero_add, RR, IA, PA, RA0, RA1, RA2, RA3, RA4, RA5, RA6, RA7, RA8, RA9, RA10, Nat.reduceAdd, Nat.reduceMul, Nat.reduceEqDiff, Nat.reduceLeDiff, Nat.reduceLT, Int.reduceToNat, Int.reduceLT, Int.reduceLE, Int.reduceEq, Int.reduceNeg, Int.reduceAdd, Int.reduceSub, Int.reduceMul, reduceIte] at hq
    rw [if_pos (by rw [List.length_append, markL_len, List.length_drop]; omega)] at hq
    rw [List.length_cons, List.length_nil, if_pos (by omega)] at hset
    have hset2 := Option.some.inj hset
    exact ih (i + 1) k _ _ _ q (by omega) (by omega) hq h0 rfl rfl (by omega) (by simp only [upd, if_true]; exact congrArg (fun z => some (Slot.row 3 1 L.length z)) hset2)
theorem markIntS_ev (L : List Int) (hL : L.length < 1000000000) : EE 22 [lentR L.length 3 1 (ints L), N 1] = some (.t [N (1 + L.length), .t [lentR L.length 3 1 (ints (markL 1 L.length)), N 1]]) := by
  refine EE_lendR T_markIntS rfl (Nat.le_of_ble_eq_true rfl) rfl ?_
  rw [show opt 22 = [] from rfl]
  simp only [bodyOf, Tryd.f22, SA]
  simp only [RR, IA, PA, RA0, RA1, RA2, RA3, RA4, RA5, RA6, RA7, RA8, RA9, RA10, Nat.reduceAdd, Nat.reduceMul, Nat.reduceEqDiff, Nat.reduceLeDiff, Nat.reduceLT, Int.reduceToNat, Int.reduceLT, Int.reduceLE, Int.reduceEq, Int.reduceNeg, Int.reduceAdd, Int.reduceSub, Int.reduceMul, reduceIte]
  generalize hq : roundsE _ _ _ = q
  obtain ⟨e', σ', nx', rfl, h1, hσ⟩ := markIntS_loop L hL L.length 0 MX _ _ _ q (by omega) (lt_MX (by omega)) hq rfl rfl rfl (by omega) (by simp only [upd, if_true]; rfl)
  simp only [h1, RR, IA, PA, RA0, RA1, RA2, RA3, RA4, RA5, RA6, RA7, RA8, RA9, RA10, Nat.reduceAdd, Nat.reduceMul, Nat.reduceEqDiff, Nat.reduceLeDiff, Nat.reduceLT, Int.reduceToNat, Int.reduceLT, Int.reduceLE, Int.reduceEq, Int.reduceNeg, Int.reduceAdd, Int.reduceSub, Int.reduceMul, reduceIte]
  exact out_row_one (x := N (1 + L.length)) (by simp only [IA, PA, RA0, RA1, RA2, RA3, RA4, RA5, RA6, RA7, RA8, RA9, RA10, Nat.reduceAdd, Nat.reduceMul, Nat.reduceEqDiff, Nat.reduceLeDiff, Nat.reduceLT, Int.reduceToNat, Int.reduceLT, Int.reduceLE, Int.reduceEq, Int.reduceNeg, Int.reduceAdd, Int.reduceSub, Int.reduceMul, reduceIte]) rfl hσ (ints_closed _) rfl
theorem T_heldIntS : TT 23 = some (Tryd.f23, bodyOf Tryd.f23) := by kernel_rfl
theorem heldIntS_loop (x : Bool) (n0 : Nat) (hL : n0 < 1000000000) : ∀ (d i n : Nat) (e : Nat → AV) (σ : Sto) (nx : Nat) (q : Option (Ex × St)),
    i + d = n0 → d < n → roundsE (evC II EE (withOpt [] pf) MX (bodyL Tryd.f23 0)) n ⟨e, σ, nx⟩ = q → e 0 = .s x n0 (ints (markL 1 n0)) → e 1 = N (1 + i) → e 5 = N i →
    ∃ e' nx', q = some (.exit 0, ⟨e', σ, nx'⟩) ∧ e' 1 = N (1 + n0) := by
  intro d
  induction d with
  | zero =>
    intro i n e σ nx q hd hn hq h0 h1 h5
    obtain ⟨k, rfl⟩ : ∃ k, n = k + 1 := ⟨n - 1, by omega⟩
    rw [rounds_rd] at hq
    have hc : ¬ ((i : Int) < (n0 : Int)) := by omega
    simp only [bodyL, bodyOf, Tryd.f23, SA, loops, List.nil_append, List.append_nil, List.cons_append, List.getD_cons_zero, List.getD_cons_succ] at hq
    simp only [h0, h1, h5, hc, IA, PA, RA0, RA1, RA2, RA3, RA4, RA5, RA6, RA7, RA8, RA9, RA10, Nat.reduceAdd, Nat.reduceMul, Nat.reduceEqDiff, Nat.reduceLeDiff, Nat.reduceLT, Int.reduceToNat, Int.reduceLT, Int.reduceLE, Int.reduceEq, Int.reduceNeg, Int.reduceAdd, Int.reduceSub, Int.reduceMul, reduceIte] at hq
    have hi : i = n0 := by omega
    exact ⟨_, _, hq.symm, by rw [← hi]; exact h1⟩
  | succ d ih =>
    intro i n e σ nx q hd hn hq h0 h1 h5
    obtain ⟨k, rfl⟩ : ∃ k, n = k + 1 := ⟨n - 1, by omega⟩
    rw [rounds_rd] at hq
    have hc : ((i : Int) < (n0 : Int)) := by omega
    have hz : (0 : Int) ≤ (i : Int) := by omega
    have hw : IntKind.i64.wrap ((i : Int) + 1) = ((i + 1 : Nat) : Int) := by rw [wrap64 (by omega) (by omega)]; rfl
    have hw1 : IntKind.i64.wrap (1 + (i : Int) + 1) = 1 + ((i + 1 : Nat) : Int) := by rw [wrap64 (by omega) (by omega)]; omega
    have hhd : ((ints (markL 1 n0)).drop i).head? = some (N (1 + i)) := by rw [ints_drop, markL_drop i n0 1 (by omega)]; rfl
    have hee : decide ((1 + (i : Int)) = 1 + (i : Int)) = true := by simp
    simp only [bodyL, bodyOf, Tryd.f23, SA, loops, List.nil_append, List.append_nil, List.cons_append, List.getD_cons_zero, List.getD_cons_succ] at hq
    simp only [h0, h1, h5, hc, hz, hw, hw1, hhd, hee, markL_len, Int.toNat_natCast, Nat.mul_one, Nat.zero_add, RR, IA, PA, RA0, RA1, RA2, RA3, RA4, RA5, RA6, RA7, RA8, RA9, RA10, Nat.reduceAdd, Nat.reduceMul, Nat.reduceEqDiff, Nat.reduceLeDiff, Nat.reduceLT, Int.reduceToNat, Int.reduceLT, Int.reduceLE, Int.reduceEq, Int.reduceNeg, Int.reduceAdd, Int.reduceSub, Int.reduceMul, reduceIte] at hq
    exact ih (i + 1) k _ σ _ q (by omega) (by omega) hq h0 rfl rfl
theorem heldIntS_ev (x : Bool) (n0 : Nat) (hL : n0 < 1000000000) : EE 23 [.s x n0 (ints (markL 1 n0)), N 1] = some (N (1 + n0)) := by
  refine EE_plain T_heldIntS (by decide) (Nat.le_of_ble_eq_true rfl) (by simp only [closedL, closed, ints_closed, Bool.and_self]) ?_
  rw [show opt 23 = [] from rfl]
  simp only [bodyOf, Tryd.f23, SA]
  simp only [RR, IA, PA, RA0, RA1, RA2, RA3, RA4, RA5, RA6, RA7, RA8, RA9, RA10, Nat.reduceAdd, Nat.reduceMul, Nat.reduceEqDiff, Nat.reduceLeDiff, Nat.reduceLT, Int.reduceToNat, Int.reduceLT, Int.reduceLE, Int.reduceEq, Int.reduceNeg, Int.reduceAdd, Int.reduceSub, Int.reduceMul, reduceIte]
  generalize hq : roundsE _ _ _ = q
  obtain ⟨e', nx', rfl, h1⟩ := heldIntS_loop x n0 hL n0 0 MX _ _ _ q (by omega) (lt_MX (by omega)) hq rfl rfl rfl
  simp only [h1, RR, IA, PA, RA0, RA1, RA2, RA3, RA4, RA5, RA6, RA7, RA8, RA9, RA10, Nat.reduceAdd, Nat.reduceMul, Nat.reduceEqDiff, Nat.reduceLeDiff, Nat.reduceLT, Int.reduceToNat, Int.reduceLT, Int.reduceLE, Int.reduceEq, Int.reduceNeg, Int.reduceAdd, Int.reduceSub, Int.reduceMul, reduceIte]
section
variable {I : Tab} {C : Sem1} {pf : FuncId → Nat} {m : Nat} {e : Nat → AV} {σ : Sto} {key : Nat}
theorem evM_goes {fn : Func} {c : Code} {xs : List AV} (hN : xs.length ≤ fn.ntmps) (hx : xs.all goes = true) :
    evM I C pf m fn c xs = (evC I C pf m c ⟨fun t => xs.getD t (.v undef), fun _ => none, 0⟩).bind (outK I fn.results.toList xs) := by
  unfold evM
  simp only [inits_goes hx]
  rw [if_pos ⟨hN, trivial⟩]
  congr 1
  funext ⟨x, s⟩
  cases x <;> rfl
theorem out_goes_one {rs : List ResultVar} {xs : List AV} {s : St} {x : AV} (h1 : evRes I s rs = some [x]) (h2 : goes x = true) (hx : xs.all goes = true) :
    outK I rs xs (.ret, s) = some (.t [x, .t xs]) := by
  have h3 : giveL s.σ [x] = some ([x], [], []) := giveL_closed (by simp only [closedL, goes_closed h2, Bool.and_self])
  simp only [outK, h1, Option.bind_some, h3, packOL_goes hx]
  rw [if_pos ⟨by simp, by simp⟩]
  cases x
  case t => simp [goes] at h2
  all_goals rfl
theorem call_goes {f : FuncId} {xs : List AV} {x : Value} (hp : pf f = 2) (hx : xs.all goes = true) (hr : C f xs = some (.t [.v x, .t xs])) : callOp C pf σ key f xs = some (.v x, σ) := by
  rw [call2_eq hp]
  have h1 : needs σ xs = [] := needs_goes hx
  rw [h1]
  simp only [frz0, packL_goes hx, Option.bind_some, lend1]
  rw [if_pos (by simp), hr]
  have h3 : killL σ [] = σ := by
    funext i
    simp [killL]
  simp only [Option.bind_some, lend2, h1, frz0, h3, back_goes hx]
  rw [if_pos (by simp [room])]
  rfl
end
theorem EE_goes {f : FuncId} {fn : Func} {xs : List AV} {r : AV} (hT : TT f = some (fn, bodyOf fn)) (hp : pf f = 2) (hN : xs.length ≤ fn.ntmps) (hx : xs.all goes = true)
    (h : (evC II EE (withOpt (opt f) pf) MX (strip (bodyOf fn)) ⟨fun t => xs.getD t (.v undef), fun _ => none, 0⟩).bind (outK II fn.results.toList xs) = some r) : EE f xs = some r :=
  EE_lent hT hp (by rw [evM_goes hN hx, ← evC_strip]; exact h)
theorem markIntS_nil : EE 22 [.s true 0 [], N 1] = some (.t [N 1, .t [.s true 0 [], N 1]]) := by
  refine EE_goes T_markIntS rfl (Nat.le_of_ble_eq_true rfl) rfl ?_
  rw [show opt 22 = [] from rfl]
  simp only [bodyOf, Tryd.f22, SA]
  simp only [RR, IA, PA, RA0, RA1, RA2, RA3, RA4, RA5, RA6, RA7, RA8, RA9, RA10, Nat.reduceAdd, Nat.reduceMul, Nat.reduceEqDiff, Nat.reduceLeDiff, Nat.reduceLT, Int.reduceToNat, Int.reduceLT, Int.reduceLE, Int.reduceEq, Int.reduceNeg, Int.reduceAdd, Int.reduceSub, Int.reduceMul, reduceIte]
  generalize hq : roundsE _ _ _ = q
  obtain ⟨k, hk⟩ : ∃ k, MX = k + 1 := ⟨MX - 1, rfl⟩
  rw [hk, rounds_rd] at hq
  simp only [RR, IA, PA, RA0, RA1, RA2, RA3, RA4, RA5, RA6, RA7, RA8, RA9, RA10, Nat.reduceAdd, Nat.reduceMul, Nat.reduceEqDiff, Nat.reduceLeDiff, Nat.reduceLT, Int.reduceToNat, Int.reduceLT, Int.reduceLE, Int.reduceEq, Int.reduceNeg, Int.reduceAdd, Int.reduceSub, Int.reduceMul, reduceIte] at hq
  subst hq
  simp only [RR, IA, PA, RA0, RA1, RA2, RA3, RA4, RA5, RA6, RA7, RA8, RA9, RA10, Nat.reduceAdd, Nat.reduceMul, Nat.reduceEqDiff, Nat.reduceLeDiff, Nat.reduceLT, Int.reduceToNat, Int.reduceLT, Int.reduceLE, Int.reduceEq, Int.reduceNeg, Int.reduceAdd, Int.reduceSub, Int.reduceMul, reduceIte]
  exact out_goes_one (x := N 1) (by simp only [IA, PA, RA0, RA1, RA2, RA3, RA4, RA5, RA6, RA7, RA8, RA9, RA10, Nat.reduceAdd, Nat.reduceMul, Nat.reduceEqDiff, Nat.reduceLeDiff, Nat.reduceLT, Int.reduceToNat, Int.reduceLT, Int.reduceLE, Int.reduceEq, Int.reduceNeg, Int.reduceAdd, Int.reduceSub, Int.reduceMul, reduceIte]) rfl rfl
theorem adopt_ob2 (σ : Sto) (key : Nat) {E sz n : Nat} {cs : List AV} (b : Bool) (h : closedL cs = true) : adopt σ key (.t [.o E sz n cs, B b]) = some (.t [.w key 0 n, B b], upd σ key (some (.row E sz n cs))) := adopt_t2 _ _ (adopt1_o h) rfl
theorem adopt_sn (σ : Sto) (key : Nat) (b : Bool) : adopt σ key (.t [.s true 0 [], B b]) = some (.t [.s true 0 [], B b], σ) := adopt_two rfl rfl
theorem T_implCountRules : TT 20 = some (Tryd.f20, bodyOf Tryd.f20) := by kernel_rfl
theorem T_specCountRules : TT 19 = some (Tryd.f19, bodyOf Tryd.f19) := by kernel_rfl
theorem T_lawCountRules : TT 8 = some (Tryd.f8, bodyOf Tryd.f8) := by kernel_rfl
def cntV (t : List UInt8) : AV := match rdT t with
  | some x => .t [.o 3 1 7 (ints (doneX x).2), B true]
  | none => .t [.s true 0 [], B false]
theorem give_sbn {σ : Sto} (b : Bool) : giveAll σ [.s true 0 [], B b] = some (.t [.s true 0 [], B b]) := giveAll_two rfl
set_option maxHeartbeats 4000000 in
theorem implCount_ev (t : List UInt8) (hl : t.length < 4611686018427387904) : EE 20 [S t] = some (cntV t) := by
  have h := termOf_ev t hl
  refine EE_plain T_implCountRules (by decide) (Nat.le_of_ble_eq_true rfl) rfl ?_
  rw [show opt 20 = [] from rfl]
  simp only [bodyOf, Tryd.f20, SA]
  unfold cntV
  cases hr : rdT t with
  | none =>
    rw [hr] at h
    simp only [h, hr, adopt_nilPX, give_sbn, TMA, RR, IA, PA, RA0, RA1, RA2, RA3, RA4, RA5, RA6, RA7, RA8, RA9, RA10, Nat.reduceAdd, Nat.reduceMul, Nat.reduceEqDiff, Nat.reduceLeDiff, Nat.reduceLT, Int.reduceToNat, Int.reduceLT, Int.reduceLE, Int.reduceEq, Int.reduceNeg, Int.reduceAdd, Int.reduceSub, Int.reduceMul, reduceIte]
  | some x =>
    rw [hr] at h
    obtain ⟨ps, pb, e1, e2, e3, e4, e5⟩ := doneI_ev hr
    simp only at h
    rw [e1] at h
    simp only [h, e2, e3, hr, TMA, RR, IA, PA, RA0, RA1, RA2, RA3, RA4, RA5, RA6, RA7, RA8, RA9, RA10, Nat.reduceAdd, Nat.reduceMul, Nat.reduceEqDiff, Nat.reduceLeDiff, Nat.reduceLT, Int.reduceToNat, Int.reduceLT, Int.reduceLE, Int.reduceEq, Int.reduceNeg, Int.reduceAdd, Int.reduceSub, Int.reduceMul, reduceIte]
    rw [call2_L ((withOpt_nil_lo (by decide)).trans rfl), callL_pr (cs := ints c0) (by rfl) (ints_closed _) e2 e4 rfl (fun σ key => by rw [adopt_ptr, if_pos e3])]
    simp only [e5, e2, e3, TMA, RR, IA, PA, RA0, RA1, RA2, RA3, RA4, RA5, RA6, RA7, RA8, RA9, RA10, Nat.reduceAdd, Nat.reduceMul, Nat.reduceEqDiff, Nat.reduceLeDiff, Nat.reduceLT, Int.reduceToNat, Int.reduceLT, Int.reduceLE, Int.reduceEq, Int.reduceNeg, Int.reduceAdd, Int.reduceSub, Int.reduceMul, reduceIte]
    exact giveAll_wc (by simp only [upd, if_true]) (ints_closed _) rfl
set_option maxHeartbeats 4000000 in
theorem specCount_ev (t : List UInt8) (hl : t.length < 4611686018427387904) : EE 19 [S t] = some (cntV t) := by
  have h := l10Done_ev t hl
  refine EE_plain T_specCountRules (by decide) (Nat.le_of_ble_eq_true rfl) rfl ?_
  rw [show opt 19 = [] from rfl]
  simp only [bodyOf, Tryd.f19, SA]
  unfold doneV at h
  unfold cntV
  cases hr : rdT t with
  | none =>
    rw [hr] at h
    simp only [h, hr, adopt_undone, give_sbn, TMA, RR, IA, PA, RA0, RA1, RA2, RA3, RA4, RA5, RA6, RA7, RA8, RA9, RA10, Nat.reduceAdd, Nat.reduceMul, Nat.reduceEqDiff, Nat.reduceLeDiff, Nat.reduceLT, Int.reduceToNat, Int.reduceLT, Int.reduceLE, Int.reduceEq, Int.reduceNeg, Int.reduceAdd, Int.reduceSub, Int.reduceMul, reduceIte]
  | some x =>
    rw [hr] at h
    simp only [h, hr, adopt_done _ _ (ints_closed _), TMA, RR, IA, PA, RA0, RA1, RA2, RA3, RA4, RA5, RA6, RA7, RA8, RA9, RA10, Nat.reduceAdd, Nat.reduceMul, Nat.reduceEqDiff, Nat.reduceLeDiff, Nat.reduceLT, Int.reduceToNat, Int.reduceLT, Int.reduceLE, Int.reduceEq, Int.reduceNeg, Int.reduceAdd, Int.reduceSub, Int.reduceMul, reduceIte]
    exact giveAll_wc (by simp only [upd, if_true]) (ints_closed _) rfl
theorem countRules_law (t : List UInt8) : EE 8 [S t] = some (B true) := by
  refine EE_plain T_lawCountRules (by decide) (Nat.le_of_ble_eq_true rfl) rfl ?_
  rw [show opt 8 = [] from rfl]
  simp only [bodyOf, Tryd.f8, SA]
  by_cases hbig : (1048576 : Int) < (t.length : Int)
  · simp only [hbig, RR, IA, PA, RA0, RA1, RA2, RA3, RA4, RA5, RA6, RA7, RA8, RA9, RA10, Nat.reduceAdd, Nat.reduceMul, Nat.reduceEqDiff, Nat.reduceLeDiff, Nat.reduceLT, Int.reduceToNat, Int.reduceLT, Int.reduceLE, Int.reduceEq, Int.reduceNeg, Int.reduceAdd, Int.reduceSub, Int.reduceMul, reduceIte]
  · have hl : t.length < 4611686018427387904 := by omega
    have h := implCount_ev t hl
    have k := specCount_ev t hl
    unfold cntV at h k
    cases hs : rdT t with
    | none =>
      rw [hs] at h k
      simp only at h k
      have he := eqIntS_ev true true [] (by decide)
      have hh := heldIntS_ev true 0 (by decide)
      have he0 : EE 21 [.s true 0 [], .s true 0 []] = some (B true) := he
      have hh0 : EE 23 [.s true 0 [], N 1] = some (N 1) := hh
      simp only [hbig, h, k, adopt_sn, he0, hh0, TMA, RR, IA, PA, RA0, RA1, RA2, RA3, RA4, RA5, RA6, RA7, RA8, RA9, RA10, Nat.reduceAdd, Nat.reduceMul, Nat.reduceEqDiff, Nat.reduceLeDiff, Nat.reduceLT, Int.reduceToNat, Int.reduceLT, Int.reduceLE, Int.reduceEq, Int.reduceNeg, Int.reduceAdd, Int.reduceSub, Int.reduceMul, reduceIte]
      rw [call_goes (by rfl) (by rfl) markIntS_nil]
      simp only [hbig, h, k, adopt_sn, he0, hh0, TMA, RR, IA, PA, RA0, RA1, RA2, RA3, RA4, RA5, RA6, RA7, RA8, RA9, RA10, Nat.reduceAdd, Nat.reduceMul, Nat.reduceEqDiff, Nat.reduceLeDiff, Nat.reduceLT, Int.reduceToNat, Int.reduceLT, Int.reduceLE, Int.reduceEq, Int.reduceNeg, Int.reduceAdd, Int.reduceSub, Int.reduceMul, reduceIte]
    | some w =>
      rw [hs] at h k
      simp only at h k
      obtain ⟨L, hLe, hLl⟩ : ∃ L : List Int, (doneX w).2 = L ∧ L.length = 7 := ⟨_, rfl, (done_fit hs).2.2⟩
      rw [hLe, ← hLl] at h k
      have he := eqIntS_ev false false L (by omega)
      have hm := markIntS_ev L (by omega)
      have hh := heldIntS_ev false L.length (by omega)
      simp only [hbig, h, k, adopt_ob2 _ _ _ (ints_closed L), TMA, RR, IA, PA, RA0, RA1, RA2, RA3, RA4, RA5, RA6, RA7, RA8, RA9, RA10, Nat.reduceAdd, Nat.reduceMul, Nat.reduceEqDiff, Nat.reduceLeDiff, Nat.reduceLT, Int.reduceToNat, Int.reduceLT, Int.reduceLE, Int.reduceEq, Int.reduceNeg, Int.reduceAdd, Int.reduceSub, Int.reduceMul, reduceIte]
      have hn0 : ¬ (1 + (L.length : Int) < 0) := by omega
      have hee : decide (1 + (L.length : Int) = 1 + (L.length : Int)) = true := by simp
      have hlen : (ints L).length = L.length * 1 := by rw [ints_len, Nat.mul_one]
      have hlen2 : (ints (markL 1 L.length)).length = L.length * 1 := by rw [ints_len, markL_len, Nat.mul_one]
      rw [call0_ww (E := 3) (sz := 1) (E' := 3) (sz' := 1) (cs := ints L) (ds := ints L) (by rfl) (by rfl) (by rfl) hlen hlen (ints_closed _) (ints_closed _) rfl he]
      simp only [RR, IA, PA, RA0, RA1, RA2, RA3, RA4, RA5, RA6, RA7, RA8, RA9, RA10, Nat.reduceAdd, Nat.reduceMul, Nat.reduceEqDiff, Nat.reduceLeDiff, Nat.reduceLT, Int.reduceToNat, Int.reduceLT, Int.reduceLE, Int.reduceEq, Int.reduceNeg, Int.reduceAdd, Int.reduceSub, Int.reduceMul, reduceIte]
      rw [call_row_v (E := 3) (sz := 1) (cs := ints L) (cs' := ints (markL 1 L.length)) (by rfl) (by rfl) (ints_closed _) (by rfl) (by exact hm)]
      simp only [RR, IA, PA, RA0, RA1, RA2, RA3, RA4, RA5, RA6, RA7, RA8, RA9, RA10, Nat.reduceAdd, Nat.reduceMul, Nat.reduceEqDiff, Nat.reduceLeDiff, Nat.reduceLT, Int.reduceToNat, Int.reduceLT, Int.reduceLE, Int.reduceEq, Int.reduceNeg, Int.reduceAdd, Int.reduceSub, Int.reduceMul, reduceIte]
      rw [call0_w (E := 3) (sz := 1) (cs := ints (markL 1 L.length)) (by rfl) (by rfl) hlen2 (ints_closed _) (by rfl) (by exact hh)]
      simp only [hn0, hee, h, adopt_ob2 _ _ _ (ints_closed L), TMA, RR, IA, PA, RA0, RA1, RA2, RA3, RA4, RA5, RA6, RA7, RA8, RA9, RA10, Nat.reduceAdd, Nat.reduceMul, Nat.reduceEqDiff, Nat.reduceLeDiff, Nat.reduceLT, Int.reduceToNat, Int.reduceLT, Int.reduceLE, Int.reduceEq, Int.reduceNeg, Int.reduceAdd, Int.reduceSub, Int.reduceMul, reduceIte]
      rw [call0_ww (E := 3) (sz := 1) (E' := 3) (sz' := 1) (cs := ints L) (ds := ints L) (by rfl) (by rfl) (by rfl) hlen hlen (ints_closed _) (ints_closed _) rfl he]
      simp only [RR, IA, PA, RA0, RA1, RA2, RA3, RA4, RA5, RA6, RA7, RA8, RA9, RA10, Nat.reduceAdd, Nat.reduceMul, Nat.reduceEqDiff, Nat.reduceLeDiff, Nat.reduceLT, Int.reduceToNat, Int.reduceLT, Int.reduceLE, Int.reduceEq, Int.reduceNeg, Int.reduceAdd, Int.reduceSub, Int.reduceMul, reduceIte]
      rw [call0_w (E := 3) (sz := 1) (cs := ints (markL 1 L.length)) (by rfl) (by rfl) hlen2 (ints_closed _) (by rfl) (by exact hh)]
      simp only [hn0, hee, TMA, RR, IA, PA, RA0, RA1, RA2, RA3, RA4, RA5, RA6, RA7, RA8, RA9, RA10, Nat.reduceAdd, Nat.reduceMul, Nat.reduceEqDiff, Nat.reduceLeDiff, Nat.reduceLT, Int.reduceToNat, Int.reduceLT, Int.reduceLE, Int.reduceEq, Int.reduceNeg, Int.reduceAdd, Int.reduceSub, Int.reduceMul, reduceIte]
end
end Go.Proofs.YtkilalabmbdmkaaDoor.Ev
