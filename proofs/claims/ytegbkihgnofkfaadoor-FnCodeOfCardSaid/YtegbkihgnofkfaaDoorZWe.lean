/-
Texts We to We of the work.
-/
import Derived.Test.YtegbkihgnofkfaaDoorZWd
/-
Terms: the depth of what they give: the reference's depths of variables.
-/
namespace Go.Proofs.YtegbkihgnofkfaaDoor.Ev
section
set_option linter.unusedVariables false
set_option linter.unusedSimpArgs false
open Go Go.RowKit
set_option linter.unusedVariables false
set_option linter.unusedSimpArgs false
/-- The depths of a and b, and none of others. -/
def h0 : UInt8 → Int := hset (hset (fun _ => -1) 97 1) 98 2
theorem h0_bd : ∀ c, Bd (h0 c) := hset_bd (hset_bd (fun _ => ⟨by omega, by omega⟩) _ ⟨by omega, by omega⟩) _ ⟨by omega, by omega⟩
theorem maps0 : Maps dep0 h0 := maps_set (maps_set (fun c => rfl) 97 1) 98 2
def envR (i : Nat) : List AV := List.replicate i (N (-1)) ++ List.replicate (256 - i) (N 0)
theorem envR_len {i : Nat} (h : i ≤ 256) : (envR i).length = 256 := by simp [envR]; omega
theorem envR_set {i : Nat} (h : i < 256) : (envR i).take i ++ [N (-1)] ++ (envR i).drop (i + 1) = envR (i + 1) := by
  have h1 : (envR i).take i = List.replicate i (N (-1)) := by
    rw [envR, List.take_append_of_le_length (by simp), List.take_of_length_le (by simp)]
  have h2 : (envR i).drop (i + 1) = List.replicate (256 - (i + 1)) (N 0) := by
    rw [envR, List.drop_append]
    simp only [List.length_replicate, List.drop_replicate]
    rw [show i - (i + 1) = 0 by omega, show 256 - i - (i + 1 - i) = 256 - (i + 1) by omega]
    rfl
  rw [h1, h2, envR, List.replicate_succ']
theorem envR_all : envR 256 = envL (fun _ => -1) := by
  unfold envR envL
  rw [show 256 - 256 = 0 from rfl, List.replicate_zero, List.append_nil, List.map_const', List.length_range]
theorem T_l5Start : TT 92 = some (Tryd.f92, bodyOf Tryd.f92) := by kernel_rfl
set_option maxRecDepth 100000 in
theorem l5Start_loop : ∀ (d i n id : Nat) (e : Nat → AV) (σ : Sto) (nx : Nat) (q : Option (Ex × St)),
    i + d = 256 → d < n → roundsE (evC II EE (withOpt [] pf) MX (bodyL Tryd.f92 0)) n ⟨e, σ, nx⟩ = q → e 1 = .r id 0 → e 5 = N i → σ id = some (.ob 128 (envR i)) →
    ∃ e' σ' nx', q = some (.exit 0, ⟨e', σ', nx'⟩) ∧ e' 1 = .r id 0 ∧ σ' id = some (.ob 128 (envR 256)) := by
  intro d
  induction d with
  | zero =>
    intro i n id e σ nx q hd hn hq h1 h5 hσ
    obtain ⟨k, rfl⟩ : ∃ k, n = k + 1 := ⟨n - 1, by omega⟩
    have hi : i = 256 := by omega
    have hc : ¬ ((i : Int) < 256) := by omega
    rw [rounds_rd] at hq
    simp only [bodyL, bodyOf, Tryd.f92, SA, loops, List.nil_append, List.append_nil, List.cons_append, List.getD_cons_zero, List.getD_cons_succ] at hq
    simp only [h1, h5, hc, TMA, RR, IA, PA, RA0, RA1, RA2, RA3, RA4, RA5, RA6, RA7, RA8, RA9, RA10, Nat.reduceAdd, Nat.reduceMul, Nat.reduceEqDiff, Nat.reduceLeDiff, Nat.reduceLT, Int.reduceToNat, Int.reduceLT, Int.reduceLE, Int.reduceEq, Int.reduceNeg, Int.reduceAdd, Int.reduceSub, Int.reduceMul, reduceIte] at hq
    exact ⟨_, _, _, hq.symm, h1, hi ▸ hσ⟩
  | succ d ih =>
    intro i n id e σ nx q hd hn hq h1 h5 hσ
    obtain ⟨k, rfl⟩ : ∃ k, n = k + 1 := ⟨n - 1, by omega⟩
    rw [rounds_rd] at hq
    have hc : ((i : Int) < 256) := by omega
    have hz : (0 : Int) ≤ (i : Int) := by omega
    have hc2 : ((i : Int) < ((256 : Nat) : Int)) := by omega
    have hw : IntKind.i64.wrap ((i : Int) + 1) = ((i + 1 : Nat) : Int) := by rw [wrap64 (by omega) (by omega)]; rfl
    have hle : i + 1 ≤ (envR i).length := by rw [envR_len (by omega)]; omega
    simp only [bodyL, bodyOf, Tryd.f92, SA, loops, List.nil_append, List.append_nil, List.cons_append, List.getD_cons_zero, List.getD_cons_succ] at hq
    simp only [h1, h5, hc, hc2, hz, hw, hσ, hle, Int.toNat_natCast, Nat.mul_one, Nat.zero_add, TMA, RR, IA, PA, RA0, RA1, RA2, RA3, RA4, RA5, RA6, RA7, RA8, RA9, RA10, Nat.reduceAdd, Nat.reduceMul, Nat.reduceEqDiff, Nat.reduceLeDiff, Nat.reduceLT, Int.reduceToNat, Int.reduceLT, Int.reduceLE, Int.reduceEq, Int.reduceNeg, Int.reduceAdd, Int.reduceSub, Int.reduceMul, reduceIte] at hq
    refine ih (i + 1) k id _ _ _ q (by omega) (by omega) hq h1 rfl ?_
    simp only [upd, if_true]
    exact congrArg (fun l => some (Slot.ob 128 l)) (envR_set (show i < 256 by omega))
theorem zeros_cells : List.map ofC (List.replicate 256 (Value.int .i64 0)) = envR 0 := by
  rw [List.map_replicate]
  rfl
theorem zeros_leaf : (envR 0).all leafOk = true := by
  unfold envR
  rw [List.replicate_zero, List.nil_append, List.all_eq_true]
  intro x hx
  rw [List.eq_of_mem_replicate hx]
  rfl
theorem zeros_closed : closedL (envR 0) = true := by
  unfold envR
  rw [List.replicate_zero, List.nil_append]
  generalize 256 - 0 = n
  induction n with
  | zero => rfl
  | succ n ih => rw [List.replicate_succ, closedL, ih]; rfl
set_option maxRecDepth 100000 in
theorem l5Start_ev : EE 92 [] = some (.o 128 0 0 (envL h0)) := by
  refine EE_new T_l5Start rfl (Nat.le_of_ble_eq_true rfl) rfl ?_
  rw [show opt 92 = [] from rfl]
  simp only [bodyOf, Tryd.f92, SA]
  simp only [zeros_cells, zeros_leaf, zeros_closed, RR, IA, PA, RA0, RA1, RA2, RA3, RA4, RA5, RA6, RA7, RA8, RA9, RA10, Nat.reduceAdd, Nat.reduceMul, Nat.reduceEqDiff, Nat.reduceLeDiff, Nat.reduceLT, Int.reduceToNat, Int.reduceLT, Int.reduceLE, Int.reduceEq, Int.reduceNeg, Int.reduceAdd, Int.reduceSub, Int.reduceMul, reduceIte]
  generalize hq : roundsE _ _ _ = q
  obtain ⟨e', σ', nx', rfl, h1, h2⟩ := l5Start_loop 256 0 MX 8 _ _ _ q rfl (by decide) hq rfl rfl rfl
  have c1 : (97 : Int) < ((256 : Nat) : Int) := by omega
  have c2 : (98 : Int) < ((256 : Nat) : Int) := by omega
  have s1 : (envL (fun _ => -1)).take 97 ++ [AV.v (.int .i64 1)] ++ (envL (fun _ => -1)).drop 98 = envL (hset (fun _ => -1) 97 1) := envL_set (fun _ => -1) 97 1
  have s2 : (envL (hset (fun _ => -1) 97 1)).take 98 ++ [AV.v (.int .i64 2)] ++ (envL (hset (fun _ => -1) 97 1)).drop 99 = envL (hset (hset (fun _ => -1) 97 1) 98 2) := envL_set (hset (fun _ => -1) 97 1) 98 2
  have l1 : 98 ≤ (envL (fun _ => -1)).length := by rw [envL_len]; omega
  have l2 : 99 ≤ (envL (hset (fun _ => -1) 97 1)).length := by rw [envL_len]; omega
  rw [envR_all] at h2
  simp only [h1, h2, c1, c2, s1, s2, l1, l2, RR, IA, PA, RA0, RA1, RA2, RA3, RA4, RA5, RA6, RA7, RA8, RA9, RA10, Nat.reduceAdd, Nat.reduceMul, Nat.reduceEqDiff, Nat.reduceLeDiff, Nat.reduceLT, Int.reduceToNat, Int.reduceLT, Int.reduceLE, Int.reduceEq, Int.reduceNeg, Int.reduceAdd, Int.reduceSub, Int.reduceMul, reduceIte]
  exact newK_ret (id := 8) (by simp only [IA, PA, RA0, RA1, RA2, RA3, RA4, RA5, RA6, RA7, RA8, RA9, RA10, Nat.reduceAdd, Nat.reduceMul, Nat.reduceEqDiff, Nat.reduceLeDiff, Nat.reduceLT, Int.reduceToNat, Int.reduceLT, Int.reduceLE, Int.reduceEq, Int.reduceNeg, Int.reduceAdd, Int.reduceSub, Int.reduceMul, reduceIte]) (by rfl) (envL_closed h0)
end
end Go.Proofs.YtegbkihgnofkfaaDoor.Ev
