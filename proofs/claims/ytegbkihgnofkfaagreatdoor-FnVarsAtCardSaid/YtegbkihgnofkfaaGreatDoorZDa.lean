/-
Texts Da to Dd of the work.
-/
import Derived.Test.YtegbkihgnofkfaaGreatDoorZTm
import Derived.Test.YtegbkihgnofkfaaGreatDoorZE4
/-
Draws: the source of numbers.
-/
namespace Go.Proofs.YtegbkihgnofkfaaGreatDoor.Ev
section
set_option linter.unusedVariables false
set_option linter.unusedSimpArgs false
open Go Go.RowKit
set_option linter.unusedVariables false
set_option linter.unusedSimpArgs false
/-- Cells of bytes. -/
def cbs (l : List UInt8) : List AV := l.map fun c => U c
theorem bytesV_eq (l : List UInt8) : bytesV l = .s false l.length (cbs l) := rfl
theorem cbs_closed : ∀ (l : List UInt8), closedL (cbs l) = true
  | [] => rfl
  | c :: l => by
    simp only [cbs, List.map_cons, closedL, closed, Bool.true_and]
    exact cbs_closed l
/-- A source's cells, and a source as it is lent. -/
abbrev srcC (l : List UInt8) (p : Nat) : List AV := [.s false l.length (cbs l), N p]
abbrev srcL (l : List UInt8) (p : Nat) : AV := lent 48 (srcC l p)
theorem src_cl (l : List UInt8) (p : Nat) : closedL (srcC l p) = true := by
  simp only [closedL, closed, cbs_closed, Bool.and_self]
theorem xor64 (a b : Nat) (ha : a < 2 ^ 62) (hb : b < 2 ^ 62) : 0 ≤ bitsI .xor .i64 (a : Int) (b : Int) := by
  have hx : a ^^^ b < 2 ^ 62 := Nat.xor_lt_two_pow ha hb
  have h1 : (BitVec.ofInt 64 (a : Int)).toNat = a := by
    rw [BitVec.ofInt_natCast, BitVec.toNat_ofNat]
    exact Nat.mod_eq_of_lt (by omega)
  have h2 : (BitVec.ofInt 64 (b : Int)).toNat = b := by
    rw [BitVec.ofInt_natCast, BitVec.toNat_ofNat]
    exact Nat.mod_eq_of_lt (by omega)
  show 0 ≤ IntKind.i64.wrap ((BitVec.ofInt 64 (a : Int) ^^^ BitVec.ofInt 64 (b : Int)).toNat : Int)
  rw [BitVec.toNat_xor, h1, h2, IntKind.wrap_i64]
  omega
theorem tmod_lt {x n : Int} (hx : 0 ≤ x) (hn : 1 ≤ n) : 0 ≤ Int.tmod x n ∧ Int.tmod x n < n := by
  rw [Int.tmod_eq_emod_of_nonneg hx]
  exact ⟨Int.emod_nonneg _ (by omega), Int.emod_lt_of_pos _ (by omega)⟩
theorem T_pick : TT 13 = some (Tryz.f13, bodyOf Tryz.f13) := by kernel_rfl
set_option maxHeartbeats 4000000 in
theorem pick_ev (l : List UInt8) (hl : l.length ≤ 2000) (p : Nat) (hp : p ≤ 1000000) (n : Int) (hn : n ≤ 1000000) :
    ∃ v : Int, 0 ≤ v ∧ (1 ≤ n → v < n) ∧ EE 13 [srcL l p, N n] = some (.t [N v, .t [srcL l (p + 1), N n]]) := by
  have hrun : ∀ y, ((evC II EE (withOpt (opt 13) pf) MX (strip (bodyOf Tryz.f13)) ⟨fun t => (.r 0 0 :: [N n]).getD t (.v undef), upd (fun _ => none) 0 (some (.ob 48 (srcC l p))), 1⟩).bind (outK II Tryz.f13.results.toList (.r 0 0 :: [N n]))) = some y → EE 13 [srcL l p, N n] = some y := fun y h => EE_lend T_pick (by decide) (Nat.le_of_ble_eq_true rfl) (src_cl l p) rfl h
  rw [show opt 13 = [] from rfl] at hrun
  simp only [bodyOf, Tryz.f13, SA] at hrun
  have w1 : IntKind.i64.wrap ((p : Int) + 1) = ((p + 1 : Nat) : Int) := by rw [wrap64 (by omega) (by omega)]; omega
  have w2 : IntKind.i64.wrap (((p + 1 : Nat) : Int) - 1) = (p : Int) := by rw [wrap64 (by omega) (by omega)]; omega
  have hz : (0 : Int) ≤ (p : Int) := by omega
  by_cases h1 : n < 1
  · simp only [w1, h1, IA, PA, RA0, RA1, RA2, RA3, RA4, RA5, RA6, RA7, RA8, RA9, RA10, Nat.reduceAdd, Nat.reduceMul, Nat.reduceEqDiff, Nat.reduceLeDiff, Nat.reduceLT, Int.reduceToNat, Int.reduceLT, Int.reduceLE, Int.reduceEq, Int.reduceNeg, Int.reduceAdd, Int.reduceSub, Int.reduceMul, reduceIte] at hrun
    exact ⟨0, Int.le_refl _, fun h => by omega, hrun _ (out_one rfl rfl rfl (src_cl l (p + 1)) rfl)⟩
  · by_cases h2 : l = []
    · subst h2
      simp only [w1, h1, List.length_nil, IA, PA, RA0, RA1, RA2, RA3, RA4, RA5, RA6, RA7, RA8, RA9, RA10, Nat.reduceAdd, Nat.reduceMul, Nat.reduceEqDiff, Nat.reduceLeDiff, Nat.reduceLT, Int.reduceToNat, Int.reduceLT, Int.reduceLE, Int.reduceEq, Int.reduceNeg, Int.reduceAdd, Int.reduceSub, Int.reduceMul, reduceIte] at hrun
      exact ⟨0, Int.le_refl _, fun h => by omega, hrun _ (out_one rfl rfl rfl (src_cl [] (p + 1)) rfl)⟩
    · have hl0 : 0 < l.length := List.length_pos_iff.2 h2
      have hne : ¬ ((l.length : Int) = 0) := by omega
      by_cases h3 : p < l.length
      · have h3' : (p : Int) < (l.length : Int) := by omega
        have hd : ((cbs l).drop p).head? = some (U l[p]) := by
          rw [List.head?_drop, cbs, List.getElem?_map, List.getElem?_eq_getElem h3]
          rfl
        simp only [w1, w2, h1, hne, h3', hz, hd, Int.toNat_natCast, Nat.mul_one, IA, PA, RA0, RA1, RA2, RA3, RA4, RA5, RA6, RA7, RA8, RA9, RA10, Nat.reduceAdd, Nat.reduceMul, Nat.reduceEqDiff, Nat.reduceLeDiff, Nat.reduceLT, Int.reduceToNat, Int.reduceLT, Int.reduceLE, Int.reduceEq, Int.reduceNeg, Int.reduceAdd, Int.reduceSub, Int.reduceMul, reduceIte] at hrun
        have hcl : (cbs l).length = l.length := by simp [cbs]
        have hn0 : ¬ (n = 0) := by omega
        have hlt := l[p].toNat_lt
        have wA : IntKind.i64.wrap ((l[p].toNat : Nat) : Int) = ((l[p].toNat : Nat) : Int) := wrap64 (by omega) (by omega)
        simp only [hcl, hn0, wA, if_true, if_false] at hrun
        refine ⟨_, Int.tmod_nonneg _ (by omega), fun h => ?_, hrun _ (out_one rfl rfl rfl (src_cl l (p + 1)) rfl)⟩
        rw [Int.tmod_eq_emod_of_nonneg (by omega)]
        exact Int.emod_lt_of_pos _ (by omega)
      · have h3' : ¬ ((p : Int) < (l.length : Int)) := by omega
        have hcl : (cbs l).length = l.length := by simp [cbs]
        have hn0 : ¬ (n = 0) := by omega
        have m1 : ((p : Int)).tmod (l.length : Int) = ((p % l.length : Nat) : Int) := (Int.ofNat_tmod p l.length).symm
        have w7 : IntKind.i64.wrap ((p : Int) * 7) = ((p * 7 : Nat) : Int) := by rw [wrap64 (by omega) (by omega)]; omega
        have w73 : IntKind.i64.wrap (((p * 7 : Nat) : Int) + 3) = ((p * 7 + 3 : Nat) : Int) := by rw [wrap64 (by omega) (by omega)]; omega
        have m2 : (((p * 7 + 3 : Nat) : Int)).tmod (l.length : Int) = (((p * 7 + 3) % l.length : Nat) : Int) := (Int.ofNat_tmod _ l.length).symm
        have m3 : ((p : Int)).tdiv (l.length : Int) = ((p / l.length : Nat) : Int) := (Int.ofNat_tdiv p l.length).symm
        have l1 : p % l.length < l.length := Nat.mod_lt _ hl0
        have l2 : (p * 7 + 3) % l.length < l.length := Nat.mod_lt _ hl0
        have l1' : ((p % l.length : Nat) : Int) < (l.length : Int) := by omega
        have l2' : (((p * 7 + 3) % l.length : Nat) : Int) < (l.length : Int) := by omega
        have z1 : (0 : Int) ≤ ((p % l.length : Nat) : Int) := by omega
        have z2 : (0 : Int) ≤ (((p * 7 + 3) % l.length : Nat) : Int) := by omega
        obtain ⟨a, ha⟩ : ∃ a, l[p % l.length]? = some a := ⟨_, List.getElem?_eq_getElem l1⟩
        obtain ⟨b, hb⟩ : ∃ b, l[(p * 7 + 3) % l.length]? = some b := ⟨_, List.getElem?_eq_getElem l2⟩
        have d1 : ((cbs l).drop (p % l.length)).head? = some (U a) := by
          rw [List.head?_drop, cbs, List.getElem?_map, ha]
          rfl
        have d2 : ((cbs l).drop ((p * 7 + 3) % l.length)).head? = some (U b) := by
          rw [List.head?_drop, cbs, List.getElem?_map, hb]
          rfl
        have alt := a.toNat_lt
        have blt := b.toNat_lt
        have wA : IntKind.i64.wrap ((a.toNat : Nat) : Int) = ((a.toNat : Nat) : Int) := wrap64 (by omega) (by omega)
        have wB : IntKind.i64.wrap ((b.toNat : Nat) : Int) = ((b.toNat : Nat) : Int) := wrap64 (by omega) (by omega)
        have wA2 : IntKind.i64.wrap (((a.toNat : Nat) : Int) * 131) = ((a.toNat * 131 : Nat) : Int) := by rw [wrap64 (by omega) (by omega)]; omega
        have wB2 : IntKind.i64.wrap (((b.toNat : Nat) : Int) * 1117) = ((b.toNat * 1117 : Nat) : Int) := by rw [wrap64 (by omega) (by omega)]; omega
        have wS : IntKind.i64.wrap (((a.toNat * 131 : Nat) : Int) + ((b.toNat * 1117 : Nat) : Int)) = ((a.toNat * 131 + b.toNat * 1117 : Nat) : Int) := by rw [wrap64 (by omega) (by omega)]; omega
        have w29 : IntKind.i64.wrap ((p : Int) * 29) = ((p * 29 : Nat) : Int) := by rw [wrap64 (by omega) (by omega)]; omega
        have wS2 : IntKind.i64.wrap (((a.toNat * 131 + b.toNat * 1117 : Nat) : Int) + ((p * 29 : Nat) : Int)) = ((a.toNat * 131 + b.toNat * 1117 + p * 29 : Nat) : Int) := by rw [wrap64 (by omega) (by omega)]; omega
        have hdv : p / l.length ≤ p := Nat.div_le_self _ _
        have w0 : IntKind.i64.wrap ((p / l.length : Nat) : Int) = ((p / l.length : Nat) : Int) := by
          generalize p / l.length = k at hdv
          exact wrap64 (by omega) (by omega)
        have w53 : IntKind.i64.wrap (((p / l.length : Nat) : Int) * 53) = ((p / l.length * 53 : Nat) : Int) := by
          generalize p / l.length = k at hdv
          rw [wrap64 (by omega) (by omega)]; omega
        have wS3 : IntKind.i64.wrap (((a.toNat * 131 + b.toNat * 1117 + p * 29 : Nat) : Int) + ((p / l.length * 53 : Nat) : Int)) = ((a.toNat * 131 + b.toNat * 1117 + p * 29 + p / l.length * 53 : Nat) : Int) := by
          generalize p / l.length = k at hdv
          rw [wrap64 (by omega) (by omega)]; omega
        have hbd : a.toNat * 131 + b.toNat * 1117 + p * 29 + p / l.length * 53 < 1000000000 := by
          generalize p / l.length = k at hdv
          omega
        simp only [w1, w2, h1, hne, h3', hz, hcl, hn0, m1, m2, m3, w7, w73, l1', l2', z1, z2, d1, d2, wA, wB, wA2, wB2, wS, w29, wS2, w0, w53, wS3, Int.toNat_natCast, Nat.mul_one, IA, PA, RA0, RA1, RA2, RA3, RA4, RA5, RA6, RA7, RA8, RA9, RA10, Nat.reduceAdd, Nat.reduceMul, Nat.reduceEqDiff, Nat.reduceLeDiff, Nat.reduceLT, Int.reduceToNat, Int.reduceLT, Int.reduceLE, Int.reduceEq, Int.reduceNeg, Int.reduceAdd, Int.reduceSub, Int.reduceMul, reduceIte] at hrun
        generalize a.toNat * 131 + b.toNat * 1117 + p * 29 + p / l.length * 53 = X at hbd hrun
        have m4 : ((X : Nat) : Int).tdiv 64 = ((X / 64 : Nat) : Int) := (Int.ofNat_tdiv X 64).symm
        have w6 : IntKind.i64.wrap ((X / 64 : Nat) : Int) = ((X / 64 : Nat) : Int) := wrap64 (by omega) (by omega)
        simp only [m4, w6] at hrun
        obtain ⟨t0, t1⟩ := tmod_lt (xor64 X (X / 64) (by omega) (by omega)) (show 1 ≤ n by omega)
        exact ⟨_, t0, fun _ => t1, hrun _ (out_one rfl rfl rfl (src_cl l (p + 1)) rfl)⟩
end
end Go.Proofs.YtegbkihgnofkfaaGreatDoor.Ev

/-
Draws: elements of lists, a source opened, small texts.
-/
namespace Go.Proofs.YtegbkihgnofkfaaGreatDoor.Ev
section
set_option linter.unusedVariables false
set_option linter.unusedSimpArgs false
open Go Go.RowKit
set_option linter.unusedVariables false
set_option linter.unusedSimpArgs false
theorem T_of : TT 26 = some (Tryz.f26, bodyOf Tryz.f26) := by kernel_rfl
theorem T_num : TT 14 = some (Tryz.f14, bodyOf Tryz.f14) := by kernel_rfl
theorem T_open : TT 9 = some (Tryz.f9, bodyOf Tryz.f9) := by kernel_rfl
/-- A call that draws a number. -/
theorem pick_call {σ : Sto} {l : List UInt8} {p : Nat} {n v : Int} {pf' : FuncId → Nat} (hp : pf' 13 = 2) {id : Nat} (hσ : σ id = some (.ob 48 (srcC l p))) (h : EE 13 [srcL l p, N n] = some (.t [N v, .t [srcL l (p + 1), N n]])) (key : Nat) :
    callOp EE pf' σ key 13 [.r id 0, N n] = some (N v, upd σ id (some (.ob 48 (srcC l (p + 1))))) :=
  call_ob_v hp hσ (src_cl l p) rfl h (src_cl l (p + 1)) rfl (show 1 ≤ 4 by decide)
set_option maxHeartbeats 4000000 in
theorem of_ev (l : List UInt8) (hl : l.length ≤ 2000) (p : Nat) (hp : p ≤ 1000000) (ex : Bool) (L : List (List UInt8)) (h0 : 0 < L.length) (hL : L.length ≤ 1000) :
    ∃ s, s ∈ L ∧ EE 26 [srcL l p, .s ex L.length (strs L)] = some (.t [S s, .t [srcL l (p + 1), .s ex L.length (strs L)]]) := by
  obtain ⟨v, v0, v1, hv⟩ := pick_ev l hl p hp (L.length : Int) (by omega)
  have hvl := v1 (by omega)
  obtain ⟨k, rfl⟩ : ∃ k : Nat, v = (k : Int) := ⟨v.toNat, by omega⟩
  have hk : k < L.length := by omega
  have hg : [AV.s ex L.length (strs L)].all goes = true := by
    simp only [List.all_cons, List.all_nil, goes, closed, strs_closed, Bool.and_self]
  have hrun : ∀ y, ((evC II EE (withOpt (opt 26) pf) MX (strip (bodyOf Tryz.f26)) ⟨fun t => (.r 0 0 :: [.s ex L.length (strs L)]).getD t (.v undef), upd (fun _ => none) 0 (some (.ob 48 (srcC l p))), 1⟩).bind (outK II Tryz.f26.results.toList (.r 0 0 :: [.s ex L.length (strs L)]))) = some y → EE 26 [srcL l p, .s ex L.length (strs L)] = some y := fun y h => EE_lend T_of (by decide) (Nat.le_of_ble_eq_true rfl) (src_cl l p) hg h
  rw [show opt 26 = [] from rfl] at hrun
  simp only [bodyOf, Tryz.f26, SA] at hrun
  have hd : ((strs L).drop k).head? = some (S L[k]) := by
    rw [List.head?_drop, strs_get, List.getElem?_eq_getElem hk]
    rfl
  simp only [RR, IA, PA, RA0, RA1, RA2, RA3, RA4, RA5, RA6, RA7, RA8, RA9, RA10, Nat.reduceAdd, Nat.reduceMul, Nat.reduceEqDiff, Nat.reduceLeDiff, Nat.reduceLT, Int.reduceToNat, Int.reduceLT, Int.reduceLE, Int.reduceEq, Int.reduceNeg, Int.reduceAdd, Int.reduceSub, Int.reduceMul, reduceIte] at hrun
  rw [pick_call (withOpt_nil_lo (by decide)) (by rfl) hv] at hrun
  have hsl : (strs L).length = L.length := strs_len L
  simp only [v0, hvl, hd, hsl, Int.toNat_natCast, Nat.mul_one, RR, IA, PA, RA0, RA1, RA2, RA3, RA4, RA5, RA6, RA7, RA8, RA9, RA10, Nat.reduceAdd, Nat.reduceMul, Nat.reduceEqDiff, Nat.reduceLeDiff, Nat.reduceLT, Int.reduceToNat, Int.reduceLT, Int.reduceLE, Int.reduceEq, Int.reduceNeg, Int.reduceAdd, Int.reduceSub, Int.reduceMul, reduceIte] at hrun
  exact ⟨L[k], List.getElem_mem hk, hrun _ (out_one rfl rfl rfl (src_cl l (p + 1)) hg)⟩
set_option maxHeartbeats 4000000 in
theorem num_ev (l : List UInt8) (hl : l.length ≤ 2000) (p : Nat) (hp : p ≤ 1000000) (ex : Bool) (L : List Int) (h0 : 0 < L.length) (hL : L.length ≤ 1000) :
    ∃ s, s ∈ L ∧ EE 14 [srcL l p, .s ex L.length (ints L)] = some (.t [N s, .t [srcL l (p + 1), .s ex L.length (ints L)]]) := by
  obtain ⟨v, v0, v1, hv⟩ := pick_ev l hl p hp (L.length : Int) (by omega)
  have hvl := v1 (by omega)
  obtain ⟨k, rfl⟩ : ∃ k : Nat, v = (k : Int) := ⟨v.toNat, by omega⟩
  have hk : k < L.length := by omega
  have hg : [AV.s ex L.length (ints L)].all goes = true := by
    simp only [List.all_cons, List.all_nil, goes, closed, ints_closed, Bool.and_self]
  have hrun : ∀ y, ((evC II EE (withOpt (opt 14) pf) MX (strip (bodyOf Tryz.f14)) ⟨fun t => (.r 0 0 :: [.s ex L.length (ints L)]).getD t (.v undef), upd (fun _ => none) 0 (some (.ob 48 (srcC l p))), 1⟩).bind (outK II Tryz.f14.results.toList (.r 0 0 :: [.s ex L.length (ints L)]))) = some y → EE 14 [srcL l p, .s ex L.length (ints L)] = some y := fun y h => EE_lend T_num (by decide) (Nat.le_of_ble_eq_true rfl) (src_cl l p) hg h
  rw [show opt 14 = [] from rfl] at hrun
  simp only [bodyOf, Tryz.f14, SA] at hrun
  have hd : ((ints L).drop k).head? = some (N L[k]) := by
    rw [List.head?_drop, ints_get, List.getElem?_eq_getElem hk]
    rfl
  simp only [RR, IA, PA, RA0, RA1, RA2, RA3, RA4, RA5, RA6, RA7, RA8, RA9, RA10, Nat.reduceAdd, Nat.reduceMul, Nat.reduceEqDiff, Nat.reduceLeDiff, Nat.reduceLT, Int.reduceToNat, Int.reduceLT, Int.reduceLE, Int.reduceEq, Int.reduceNeg, Int.reduceAdd, Int.reduceSub, Int.reduceMul, reduceIte] at hrun
  rw [pick_call (withOpt_nil_lo (by decide)) (by rfl) hv] at hrun
  have hsl : (ints L).length = L.length := ints_len L
  simp only [v0, hvl, hd, hsl, Int.toNat_natCast, Nat.mul_one, RR, IA, PA, RA0, RA1, RA2, RA3, RA4, RA5, RA6, RA7, RA8, RA9, RA10, Nat.reduceAdd, Nat.reduceMul, Nat.reduceEqDiff, Nat.reduceLeDiff, Nat.reduceLT, Int.reduceToNat, Int.reduceLT, Int.reduceLE, Int.reduceEq, Int.reduceNeg, Int.reduceAdd, Int.reduceSub, Int.reduceMul, reduceIte] at hrun
  exact ⟨L[k], List.getElem_mem hk, hrun _ (out_one rfl rfl rfl (src_cl l (p + 1)) hg)⟩
/-- A source opened: its bytes are at most 2000. -/
theorem open_ev (l : List UInt8) : EE 9 [bytesV l] = some (.o 48 0 0 (srcC (l.take 2000) 0)) := by
  have hcl : closedL [bytesV l] = true := by
    simp only [bytesV_eq, closedL, closed, cbs_closed, Bool.and_self]
  refine EE_new T_open rfl (Nat.le_of_ble_eq_true rfl) hcl ?_
  rw [show opt 9 = [] from rfl]
  simp only [bodyOf, Tryz.f9, SA]
  by_cases h : (2000 : Int) < (l.length : Int)
  · have hsl : (cbs l).length = l.length := by simp [cbs]
    have h1 : bound l.length (some (.v (.int .i64 2000))) l.length = some 2000 := if_pos ⟨by decide, by omega⟩
    have hcut : cut 1 (.s false l.length (cbs l)) none (some (.v (.int .i64 2000))) = some (.s false 2000 (cbs (l.take 2000))) := by
      simp only [cut, h1, bound, Option.bind_some, Option.map_some, Bool.false_and, Nat.sub_zero, Nat.zero_mul, List.drop_zero, Nat.mul_one, cbs, List.map_take]
      rw [if_pos ⟨by decide, by omega⟩]
      rfl
    have hlen : (l.take 2000).length = 2000 := by rw [List.length_take]; omega
    simp only [bytesV_eq, h, hsl, hcut, RR, IA, PA, RA0, RA1, RA2, RA3, RA4, RA5, RA6, RA7, RA8, RA9, RA10, Nat.reduceAdd, Nat.reduceMul, Nat.reduceEqDiff, Nat.reduceLeDiff, Nat.reduceLT, Int.reduceToNat, Int.reduceLT, Int.reduceLE, Int.reduceEq, Int.reduceNeg, Int.reduceAdd, Int.reduceSub, Int.reduceMul, reduceIte]
    refine (newK_ret (id := 36) (cs := srcC (l.take 2000) 0) ?_ ?_ (src_cl _ _))
    · rfl
    · simp only [srcC, hlen]
      rfl
  · rw [List.take_of_length_le (by omega)]
    simp only [bytesV_eq, h, RR, IA, PA, RA0, RA1, RA2, RA3, RA4, RA5, RA6, RA7, RA8, RA9, RA10, Nat.reduceAdd, Nat.reduceMul, Nat.reduceEqDiff, Nat.reduceLeDiff, Nat.reduceLT, Int.reduceToNat, Int.reduceLT, Int.reduceLE, Int.reduceEq, Int.reduceNeg, Int.reduceAdd, Int.reduceSub, Int.reduceMul, reduceIte]
    exact newK_ret (id := 24) (cs := srcC l 0) rfl rfl (src_cl _ _)
end
end Go.Proofs.YtegbkihgnofkfaaGreatDoor.Ev

/-
Draws: small texts.
-/
namespace Go.Proofs.YtegbkihgnofkfaaGreatDoor.Ev
section
set_option linter.unusedVariables false
set_option linter.unusedSimpArgs false
open Go Go.RowKit
set_option linter.unusedVariables false
set_option linter.unusedSimpArgs false
theorem T_dec : TT 58 = some (Tryz.f58, bodyOf Tryz.f58) := by kernel_rfl
theorem T_unbind : TT 60 = some (Tryz.f60, bodyOf Tryz.f60) := by kernel_rfl
theorem T_bind : TT 59 = some (Tryz.f59, bodyOf Tryz.f59) := by kernel_rfl
theorem T_known : TT 42 = some (Tryz.f42, bodyOf Tryz.f42) := by kernel_rfl
set_option maxHeartbeats 4000000 in
theorem dec_ev (n : Int) (h0 : 0 ≤ n) (h9 : n < 10) : ∃ c, EE 58 [N n] = some (S [c]) := by
  have hrun : ∀ y, (evC II EE (withOpt (opt 58) pf) 3 (strip (bodyOf Tryz.f58)) (St.init [N n])).bind (resK II Tryz.f58.results.toList) = some y → EE 58 [N n] = some y := fun y h => EE_few 3 T_dec (by decide) (Nat.le_of_ble_eq_true rfl) rfl h
  rw [show opt 58 = [] from rfl] at hrun
  simp only [bodyOf, Tryz.f58, SA] at hrun
  have h1 : ¬ (n < -9223372036854775807) := by omega
  have h2 : ¬ (n < 0) := by omega
  have h3 : ¬ (9 < n) := by omega
  have w1 : IntKind.i64.wrap (48 + n) = 48 + n := wrap64 (by omega) (by omega)
  have w2 : IntKind.u8.wrap (48 + n) = 48 + n := wrap8 (by omega) (by omega)
  have hb : bytesOf [.v (.int .u8 (48 + n))] = some [UInt8.ofNat (48 + n).toNat] := bytesOf_int (by omega) (by omega)
  have hadd : strBin .add ⟨List.toArray [UInt8.ofNat (48 + n).toNat]⟩ ⟨#[]⟩ = some (S [UInt8.ofNat (48 + n).toNat]) := str_add (a := [UInt8.ofNat (48 + n).toNat]) (b := []) (by simp)
  simp only [h1, h2, h3, w1, w2, hb, hadd, rounds_rd, TMA, RR, IA, PA, RA0, RA1, RA2, RA3, RA4, RA5, RA6, RA7, RA8, RA9, RA10, Nat.reduceAdd, Nat.reduceMul, Nat.reduceEqDiff, Nat.reduceLeDiff, Nat.reduceLT, Int.reduceToNat, Int.reduceLT, Int.reduceLE, Int.reduceEq, Int.reduceNeg, Int.reduceAdd, Int.reduceSub, Int.reduceMul, reduceIte] at hrun
  exact ⟨_, hrun _ rfl⟩
/-- How a text is cut at one byte. -/
theorem unbind_loop (s v : List UInt8) (hs : s.length ≤ 1000) : ∀ (d i n : Nat) (o : List UInt8) (e : Nat → AV) (σ : Sto) (nx : Nat) (q : Option (Ex × St)),
    i + d = s.length → d < n → o.length ≤ i → roundsE (evC II EE (withOpt [] pf) MX (bodyL Tryz.f60 0)) n ⟨e, σ, nx⟩ = q → e 0 = S s → e 1 = S v → e 5 = S o → e 8 = N s.length → e 9 = N i →
    ∃ e' σ' nx' o', q = some (.exit 0, ⟨e', σ', nx'⟩) ∧ e' 5 = S o' ∧ o'.length ≤ s.length := by
  intro d
  induction d with
  | zero =>
    intro i n o e σ nx q hi hd ho hq h0 h1 h5 h8 h9
    obtain ⟨n, rfl⟩ : ∃ k, n = k + 1 := ⟨n - 1, by omega⟩
    rw [rounds_rd] at hq
    have hc : ¬ ((i : Int) < (s.length : Int)) := by omega
    simp only [bodyL, bodyOf, Tryz.f60, SA, loops, List.nil_append, List.append_nil, List.cons_append, List.getD_cons_zero, List.getD_cons_succ] at hq
    simp only [h8, h9, hc, RR, IA, PA, RA0, RA1, RA2, RA3, RA4, RA5, RA6, RA7, RA8, RA9, RA10, Nat.reduceAdd, Nat.reduceMul, Nat.reduceEqDiff, Nat.reduceLeDiff, Nat.reduceLT, Int.reduceToNat, Int.reduceLT, Int.reduceLE, Int.reduceEq, Int.reduceNeg, Int.reduceAdd, Int.reduceSub, Int.reduceMul, reduceIte] at hq
    exact ⟨_, _, _, o, hq.symm, h5, by omega⟩
  | succ d ih =>
    intro i n o e σ nx q hi hd ho hq h0 h1 h5 h8 h9
    obtain ⟨n, rfl⟩ : ∃ k, n = k + 1 := ⟨n - 1, by omega⟩
    rw [rounds_rd] at hq
    have hc : ((i : Int) < (s.length : Int)) := by omega
    have hz : (0 : Int) ≤ (i : Int) := by omega
    have hw : IntKind.i64.wrap ((i : Int) + 1) = ((i + 1 : Nat) : Int) := by rw [wrap64 (by omega) (by omega)]; rfl
    have hz1 : ((i : Int) ≤ ((i + 1 : Nat) : Int)) := by omega
    have hz2 : (((i + 1 : Nat) : Int) ≤ (s.length : Int)) := by omega
    obtain ⟨c, hcut⟩ : ∃ c, (s.take (i + 1)).drop i = [c] := ⟨s[i]'(by omega), by
      rw [List.drop_take, show i + 1 - i = 1 by omega, List.take_one, List.head?_drop, List.getElem?_eq_getElem (by omega)]
      rfl⟩
    simp only [bodyL, bodyOf, Tryz.f60, SA, loops, List.nil_append, List.append_nil, List.cons_append, List.getD_cons_zero, List.getD_cons_succ] at hq
    have hadd : strBin .add ⟨List.toArray o⟩ ⟨List.toArray [c]⟩ = some (S (o ++ [c])) := str_add (by simp only [List.length_cons, List.length_nil]; omega)
    cases hv : ([c] == v)
    · simp only [h0, h1, h5, h8, h9, hc, hz, hw, hz1, hz2, hcut, hv, hadd, Int.toNat_natCast, RR, IA, PA, RA0, RA1, RA2, RA3, RA4, RA5, RA6, RA7, RA8, RA9, RA10, Nat.reduceAdd, Nat.reduceMul, Nat.reduceEqDiff, Nat.reduceLeDiff, Nat.reduceLT, Int.reduceToNat, Int.reduceLT, Int.reduceLE, Int.reduceEq, Int.reduceNeg, Int.reduceAdd, Int.reduceSub, Int.reduceMul, reduceIte] at hq
      exact ih (i + 1) n (o ++ [c]) _ _ _ q (by omega) (by omega) (by simp only [List.length_append, List.length_cons, List.length_nil]; omega) hq h0 h1 rfl h8 rfl
    · simp only [h0, h1, h5, h8, h9, hc, hz, hw, hz1, hz2, hcut, hv, Int.toNat_natCast, RR, IA, PA, RA0, RA1, RA2, RA3, RA4, RA5, RA6, RA7, RA8, RA9, RA10, Nat.reduceAdd, Nat.reduceMul, Nat.reduceEqDiff, Nat.reduceLeDiff, Nat.reduceLT, Int.reduceToNat, Int.reduceLT, Int.reduceLE, Int.reduceEq, Int.reduceNeg, Int.reduceAdd, Int.reduceSub, Int.reduceMul, reduceIte] at hq
      exact ih (i + 1) n o _ _ _ q (by omega) (by omega) (by omega) hq h0 h1 h5 h8 rfl
theorem unbind_ev (s v : List UInt8) (hs : s.length ≤ 1000) : ∃ o, o.length ≤ s.length ∧ EE 60 [S s, S v] = some (S o) := by
  have hrun : ∀ y, (evC II EE (withOpt (opt 60) pf) MX (strip (bodyOf Tryz.f60)) (St.init [S s, S v])).bind (resK II Tryz.f60.results.toList) = some y → EE 60 [S s, S v] = some y := fun y h => EE_plain T_unbind (by decide) (Nat.le_of_ble_eq_true rfl) rfl h
  rw [show opt 60 = [] from rfl] at hrun
  simp only [bodyOf, Tryz.f60, SA] at hrun
  simp only [RR, IA, PA, RA0, RA1, RA2, RA3, RA4, RA5, RA6, RA7, RA8, RA9, RA10, Nat.reduceAdd, Nat.reduceMul, Nat.reduceEqDiff, Nat.reduceLeDiff, Nat.reduceLT, Int.reduceToNat, Int.reduceLT, Int.reduceLE, Int.reduceEq, Int.reduceNeg, Int.reduceAdd, Int.reduceSub, Int.reduceMul, reduceIte] at hrun
  generalize hq : roundsE _ _ _ = q at hrun
  obtain ⟨e', σ', nx', o', rfl, h5, ho⟩ := unbind_loop s v hs s.length 0 MX [] _ _ _ q (by omega) (by
    show s.length < MX
    have : (1000 : Nat) < MX := by decide
    omega) (Nat.zero_le _) hq rfl rfl rfl rfl rfl
  simp only [h5, RR, IA, PA, RA0, RA1, RA2, RA3, RA4, RA5, RA6, RA7, RA8, RA9, RA10, Nat.reduceAdd, Nat.reduceMul, Nat.reduceEqDiff, Nat.reduceLeDiff, Nat.reduceLT, Int.reduceToNat, Int.reduceLT, Int.reduceLE, Int.reduceEq, Int.reduceNeg, Int.reduceAdd, Int.reduceSub, Int.reduceMul, reduceIte] at hrun
  exact ⟨o', ho, hrun _ rfl⟩
theorem bind_ev (s v : List UInt8) (hs : s.length ≤ 1000) (hv : v.length ≤ 1000) : ∃ o, o.length ≤ s.length + v.length ∧ EE 59 [S s, S v] = some (S o) := by
  obtain ⟨o, ho, h⟩ := unbind_ev s v hs
  have hrun : ∀ y, (evC II EE (withOpt (opt 59) pf) MX (strip (bodyOf Tryz.f59)) (St.init [S s, S v])).bind (resK II Tryz.f59.results.toList) = some y → EE 59 [S s, S v] = some y := fun y h => EE_plain T_bind (by decide) (Nat.le_of_ble_eq_true rfl) rfl h
  rw [show opt 59 = [] from rfl] at hrun
  simp only [bodyOf, Tryz.f59, SA] at hrun
  have hadd : strBin .add ⟨List.toArray o⟩ ⟨List.toArray v⟩ = some (S (o ++ v)) := str_add (by omega)
  simp only [h, hadd, RR, IA, PA, RA0, RA1, RA2, RA3, RA4, RA5, RA6, RA7, RA8, RA9, RA10, Nat.reduceAdd, Nat.reduceMul, Nat.reduceEqDiff, Nat.reduceLeDiff, Nat.reduceLT, Int.reduceToNat, Int.reduceLT, Int.reduceLE, Int.reduceEq, Int.reduceNeg, Int.reduceAdd, Int.reduceSub, Int.reduceMul, reduceIte] at hrun
  exact ⟨o ++ v, by rw [List.length_append]; omega, hrun _ rfl⟩
def knownL : List (List UInt8) := [[83, 97], [91, 120, 58, 98, 62, 83, 120, 93], [83, 91, 120, 58, 98, 62, 83, 91, 121, 58, 120, 62, 40, 121, 42, 121, 41, 93, 93], [91, 120, 58, 97, 62, 73, 120, 93], [67, 91, 120, 58, 97, 62, 73, 40, 120, 43, 49, 41, 93], [123, 120, 58, 97, 62, 40, 120, 60, 51, 41, 125], [91, 120, 58, 98, 62, 123, 121, 58, 120, 62, 40, 121, 60, 83, 120, 41, 125, 93], [91, 120, 58, 97, 62, 40, 97, 64, 120, 41, 93], [91, 120, 58, 98, 62, 91, 121, 58, 120, 62, 40, 121, 43, 78, 120, 41, 93, 93], [80, 97], [91, 120, 58, 98, 62, 80, 120, 93], [82, 91, 120, 58, 97, 62, 40, 120, 43, 49, 41, 93], [91, 120, 58, 73, 78, 97, 62, 120, 93], [77, 91, 120, 58, 98, 62, 78, 120, 93], [91, 120, 58, 97, 62, 91, 121, 58, 97, 62, 40, 120, 42, 121, 41, 93, 93], [91, 120, 58, 91, 121, 58, 97, 62, 40, 121, 43, 49, 41, 93, 62, 40, 120, 42, 50, 41, 93]]
theorem known (σ : Sto) : bsK σ 16 [(0, S [83, 97]), (1, S [91, 120, 58, 98, 62, 83, 120, 93]), (2, S [83, 91, 120, 58, 98, 62, 83, 91, 121, 58, 120, 62, 40, 121, 42, 121, 41, 93, 93]), (3, S [91, 120, 58, 97, 62, 73, 120, 93]), (4, S [67, 91, 120, 58, 97, 62, 73, 40, 120, 43, 49, 41, 93]), (5, S [123, 120, 58, 97, 62, 40, 120, 60, 51, 41, 125]), (6, S [91, 120, 58, 98, 62, 123, 121, 58, 120, 62, 40, 121, 60, 83, 120, 41, 125, 93]), (7, S [91, 120, 58, 97, 62, 40, 97, 64, 120, 41, 93]), (8, S [91, 120, 58, 98, 62, 91, 121, 58, 120, 62, 40, 121, 43, 78, 120, 41, 93, 93]), (9, S [80, 97]), (10, S [91, 120, 58, 98, 62, 80, 120, 93]), (11, S [82, 91, 120, 58, 97, 62, 40, 120, 43, 49, 41, 93]), (12, S [91, 120, 58, 73, 78, 97, 62, 120, 93]), (13, S [77, 91, 120, 58, 98, 62, 78, 120, 93]), (14, S [91, 120, 58, 97, 62, 91, 121, 58, 97, 62, 40, 120, 42, 121, 41, 93, 93]), (15, S [91, 120, 58, 91, 121, 58, 97, 62, 40, 121, 43, 49, 41, 93, 62, 40, 120, 42, 50, 41, 93])] (some ⟨.str, 1, 16, [.string ⟨#[]⟩]⟩) = some (.s true 16 (strs knownL), σ) := rfl
def ops6L : List (List UInt8) := [[43], [42], [94], [45], [61], [60]]
theorem ops6 (σ : Sto) : bsK σ 6 [(0, S [43]), (1, S [42]), (2, S [94]), (3, S [45]), (4, S [61]), (5, S [60])] (some ⟨.str, 1, 16, [.string ⟨#[]⟩]⟩) = some (.s true 6 (strs ops6L), σ) := rfl
def cut7L : List (List UInt8) := [[], [97], [120], [83], [40], [93], [113]]
theorem cut7 (σ : Sto) : bsK σ 7 [(0, S []), (1, S [97]), (2, S [120]), (3, S [83]), (4, S [40]), (5, S [93]), (6, S [113])] (some ⟨.str, 1, 16, [.string ⟨#[]⟩]⟩) = some (.s true 7 (strs cut7L), σ) := rfl
def neu4L : List (List UInt8) := [[43, 48, 41], [42, 49, 41], [45, 48, 41], [94, 48, 41]]
theorem neu4 (σ : Sto) : bsK σ 4 [(0, S [43, 48, 41]), (1, S [42, 49, 41]), (2, S [45, 48, 41]), (3, S [94, 48, 41])] (some ⟨.str, 1, 16, [.string ⟨#[]⟩]⟩) = some (.s true 4 (strs neu4L), σ) := rfl
def fus4L : List (List UInt8) := [[62, 40, 121, 43, 49, 41, 93, 62, 40, 120, 42, 50, 41, 93], [62, 83, 121, 93, 62, 40, 120, 43, 120, 41, 93], [62, 121, 93, 62, 91, 122, 58, 97, 62, 120, 93, 93], [62, 40, 121, 43, 120, 41, 93, 62, 120, 93]]
theorem fus4 (σ : Sto) : bsK σ 4 [(0, S [62, 40, 121, 43, 49, 41, 93, 62, 40, 120, 42, 50, 41, 93]), (1, S [62, 83, 121, 93, 62, 40, 120, 43, 120, 41, 93]), (2, S [62, 121, 93, 62, 91, 122, 58, 97, 62, 120, 93, 93]), (3, S [62, 40, 121, 43, 120, 41, 93, 62, 120, 93])] (some ⟨.str, 1, 16, [.string ⟨#[]⟩]⟩) = some (.s true 4 (strs fus4L), σ) := rfl
theorem known_len : ∀ s ∈ knownL, 0 < s.length ∧ s.length ≤ 80 := by decide
set_option maxHeartbeats 4000000 in
theorem known_ev (k : Nat) (hk : k < 16) : ∃ s, s ∈ knownL ∧ EE 42 [N k] = some (S s) := by
  have hrun : ∀ y, (evC II EE (withOpt (opt 42) pf) MX (strip (bodyOf Tryz.f42)) (St.init [N k])).bind (resK II Tryz.f42.results.toList) = some y → EE 42 [N k] = some y := fun y h => EE_plain T_known (by decide) (Nat.le_of_ble_eq_true rfl) rfl h
  rw [show opt 42 = [] from rfl] at hrun
  simp only [bodyOf, Tryz.f42, SA] at hrun
  have hm : ((k : Nat) : Int).tmod ((16 : Nat) : Int) = (k : Int) := by
    rw [← Int.ofNat_tmod, Nat.mod_eq_of_lt hk]
  have n16 : ¬ (((16 : Nat) : Int) = 0) := by decide
  have z0 : (0 : Int) ≤ (k : Int) := by omega
  have z1 : (k : Int) < ((16 : Nat) : Int) := by omega
  have hd : ((strs knownL).drop k).head? = some (S (knownL[k]'(by show k < 16; exact hk))) := by
    rw [List.head?_drop, strs_get, List.getElem?_eq_getElem (show k < knownL.length from hk)]
    rfl
  have hkl : (strs knownL).length = 16 := by decide
  simp only [known, n16, hm, z0, z1, hd, hkl, Int.toNat_natCast, Nat.mul_one, RR, IA, PA, RA0, RA1, RA2, RA3, RA4, RA5, RA6, RA7, RA8, RA9, RA10, Nat.reduceAdd, Nat.reduceMul, Nat.reduceEqDiff, Nat.reduceLeDiff, Nat.reduceLT, Int.reduceToNat, Int.reduceLT, Int.reduceLE, Int.reduceEq, Int.reduceNeg, Int.reduceAdd, Int.reduceSub, Int.reduceMul, reduceIte] at hrun
  exact ⟨_, List.getElem_mem (show k < knownL.length from hk), hrun _ rfl⟩
end
end Go.Proofs.YtegbkihgnofkfaaGreatDoor.Ev

/-
Draws: a term of a depth (written by wip/tools/gen_dd.py).
-/
namespace Go.Proofs.YtegbkihgnofkfaaGreatDoor.Ev
section
set_option linter.unusedVariables false
set_option linter.unusedSimpArgs false
open Go Go.RowKit
set_option linter.unusedVariables false
set_option linter.unusedSimpArgs false
theorem T_draw : TT 43 = some (Tryz.f43, bodyOf Tryz.f43) := by kernel_rfl
/-- How many numbers are drawn, how long the text is, at most. -/
def cD : Nat → Nat
  | 0 => 2
  | k + 1 => 2 * cD k + 2
def bD : Nat → Nat
  | 0 => 1
  | k + 1 => 2 * bD k + 5
theorem cat (a b : List UInt8) (h : a.length + b.length ≤ 100000) : strBin .add ⟨List.toArray a⟩ ⟨List.toArray b⟩ = some (S (a ++ b)) := str_add (by omega)
/-- What a draw is. -/
def DrawR (l : List UInt8) (k : Nat) (d fuel : Int) (z o : List UInt8) (p : Nat) : Prop :=
  ∃ s p', EE 43 [srcL l p, N d, N fuel, S z, S o] = some (.t [S s, .t [srcL l p', N d, N fuel, S z, S o]]) ∧ 0 < s.length ∧ s.length ≤ bD k ∧ p' ≤ p + cD k
def DrawOk (l : List UInt8) (k : Nat) : Prop := ∀ (d fuel : Int) (z o : List UInt8) (p : Nat), fuel ≤ k → -10 ≤ fuel → z.length + k ≤ 100 → o.length + k ≤ 100 → p + cD k ≤ 1000000 → DrawR l k d fuel z o p
theorem draw_call {σ : Sto} {l : List UInt8} {p p' : Nat} {d fuel : Int} {z o s : List UInt8} (hσ : σ 0 = some (.ob 48 (srcC l p))) (h : EE 43 [srcL l p, N d, N fuel, S z, S o] = some (.t [S s, .t [srcL l p', N d, N fuel, S z, S o]])) (key : Nat) :
    callOp EE (withOpt [] pf) σ key 43 [.r 0 0, N d, N fuel, S z, S o] = some (S s, upd σ 0 (some (.ob 48 (srcC l p')))) :=
  call_ob_v (withOpt_nil_lo (by decide)) hσ (src_cl l p) rfl h (src_cl l p') rfl (show 1 ≤ 4 by decide)
theorem of_call {σ : Sto} {l : List UInt8} {p : Nat} {ex : Bool} {L : List (List UInt8)} {s : List UInt8} {n : Nat} (hn : n = L.length) (hσ : σ 0 = some (.ob 48 (srcC l p))) (h : EE 26 [srcL l p, .s ex L.length (strs L)] = some (.t [S s, .t [srcL l (p + 1), .s ex L.length (strs L)]])) (key : Nat) :
    callOp EE (withOpt [] pf) σ key 26 [.r 0 0, .s ex n (strs L)] = some (S s, upd σ 0 (some (.ob 48 (srcC l (p + 1))))) := by
  subst hn
  exact call_ob_v (withOpt_nil_lo (by decide)) hσ (src_cl l p) (by simp only [List.all_cons, List.all_nil, goes, closed, strs_closed, Bool.and_self]) h (src_cl l (p + 1)) rfl (show 1 ≤ 4 by decide)
theorem of_call2 {σ : Sto} {l : List UInt8} {p : Nat} {a b : List UInt8} {s : List UInt8} (hσ : σ 0 = some (.ob 48 (srcC l p))) (h : EE 26 [srcL l p, .s true [a, b].length (strs [a, b])] = some (.t [S s, .t [srcL l (p + 1), .s true [a, b].length (strs [a, b])]])) (key : Nat) :
    callOp EE (withOpt [] pf) σ key 26 [.r 0 0, .s true 2 [S a, S b]] = some (S s, upd σ 0 (some (.ob 48 (srcC l (p + 1))))) := of_call (L := [a, b]) (n := 2) rfl hσ h key
abbrev st0 (l : List UInt8) (p : Nat) (d fuel : Int) (z o : List UInt8) : St := ⟨fun t => (.r 0 0 :: [N d, N fuel, S z, S o]).getD t (.v undef), upd (fun _ => none) 0 (some (.ob 48 (srcC l p))), 1⟩
theorem take_one_at (z : List UInt8) (w : Nat) (h : w < z.length) : ∃ c, (z.take (w + 1)).drop w = [c] := ⟨z[w], by
  rw [List.drop_take, show w + 1 - w = 1 by omega, List.take_one, List.head?_drop, List.getElem?_eq_getElem h]
  rfl⟩
set_option maxHeartbeats 8000000 in
theorem draw_b0 (l : List UInt8) (hl : l.length ≤ 2000) (k : Nat) (fuel : Int) (z o : List UInt8) (p : Nat) (hf : fuel ≤ 0) (hz : z.length ≤ 100) (ho : o.length ≤ 100) (hp : p + cD k ≤ 1000000) (hne : z ≠ []) : DrawR l k 0 fuel z o p := by
  have hc : 2 ≤ cD k := by cases k <;> simp only [cD] <;> omega
  have hb : 1 ≤ bD k := by cases k <;> simp only [bD] <;> omega
  have hrun : ∀ y, ((evC II EE (withOpt (opt 43) pf) MX (strip (bodyOf Tryz.f43)) (st0 l p 0 fuel z o)).bind (outK II Tryz.f43.results.toList (.r 0 0 :: [N 0, N fuel, S z, S o]))) = some y → EE 43 [srcL l p, N 0, N fuel, S z, S o] = some y := fun y h => EE_lend T_draw (by decide) (Nat.le_of_ble_eq_true rfl) (src_cl l p) rfl h
  rw [show opt 43 = [] from rfl] at hrun
  simp only [st0, bodyOf, Tryz.f43, SA] at hrun
  have hne' : (z == []) = false := by cases z <;> simp_all
  have hzl : 0 < z.length := List.length_pos_iff.2 hne
  obtain ⟨v, v0, v1, hv⟩ := pick_ev l hl p (by omega) 3 (by decide)
  simp only [hf, hne', TMA, Int.toNat_natCast, Nat.mul_one, RR, IA, PA, RA0, RA1, RA2, RA3, RA4, RA5, RA6, RA7, RA8, RA9, RA10, Nat.reduceAdd, Nat.reduceMul, Nat.reduceEqDiff, Nat.reduceLeDiff, Nat.reduceLT, Int.reduceToNat, Int.reduceLT, Int.reduceLE, Int.reduceEq, Int.reduceNeg, Int.reduceAdd, Int.reduceSub, Int.reduceMul, reduceIte] at hrun
  rw [pick_call (withOpt_nil_lo (by decide)) (by rfl) hv] at hrun
  by_cases hv0 : 0 < v
  · obtain ⟨w, w0, w1, hw⟩ := pick_ev l hl (p + 1) (by omega) (z.length : Int) (by omega)
    have hwl := w1 (by omega)
    obtain ⟨w, rfl⟩ : ∃ k : Nat, w = (k : Int) := ⟨w.toNat, by omega⟩
    simp only [hv0, hne', TMA, Int.toNat_natCast, Nat.mul_one, RR, IA, PA, RA0, RA1, RA2, RA3, RA4, RA5, RA6, RA7, RA8, RA9, RA10, Nat.reduceAdd, Nat.reduceMul, Nat.reduceEqDiff, Nat.reduceLeDiff, Nat.reduceLT, Int.reduceToNat, Int.reduceLT, Int.reduceLE, Int.reduceEq, Int.reduceNeg, Int.reduceAdd, Int.reduceSub, Int.reduceMul, reduceIte] at hrun
    rw [pick_call (withOpt_nil_lo (by decide)) (by rfl) hw] at hrun
    obtain ⟨c, hcut⟩ := take_one_at z w (by omega)
    have hw1 : IntKind.i64.wrap ((w : Int) + 1) = ((w + 1 : Nat) : Int) := by rw [wrap64 (by omega) (by omega)]; rfl
    have hle : ((w : Int) ≤ ((w + 1 : Nat) : Int)) := by omega
    have hle2 : (((w + 1 : Nat) : Int) ≤ (z.length : Int)) := by omega
    simp only [hw1, w0, hle, hle2, hcut, TMA, Int.toNat_natCast, Nat.mul_one, RR, IA, PA, RA0, RA1, RA2, RA3, RA4, RA5, RA6, RA7, RA8, RA9, RA10, Nat.reduceAdd, Nat.reduceMul, Nat.reduceEqDiff, Nat.reduceLeDiff, Nat.reduceLT, Int.reduceToNat, Int.reduceLT, Int.reduceLE, Int.reduceEq, Int.reduceNeg, Int.reduceAdd, Int.reduceSub, Int.reduceMul, reduceIte] at hrun
    exact ⟨[c], p + 1 + 1, hrun _ (out_one rfl rfl rfl (src_cl l (p + 1 + 1)) rfl), by simp, by simp only [List.length_cons, List.length_nil]; omega, by omega⟩
  · obtain ⟨w, w0, w1, hw⟩ := pick_ev l hl (p + 1) (by omega) 5 (by decide)
    obtain ⟨c, hd⟩ := dec_ev w w0 (by omega)
    simp only [hv0, hne', TMA, Int.toNat_natCast, Nat.mul_one, RR, IA, PA, RA0, RA1, RA2, RA3, RA4, RA5, RA6, RA7, RA8, RA9, RA10, Nat.reduceAdd, Nat.reduceMul, Nat.reduceEqDiff, Nat.reduceLeDiff, Nat.reduceLT, Int.reduceToNat, Int.reduceLT, Int.reduceLE, Int.reduceEq, Int.reduceNeg, Int.reduceAdd, Int.reduceSub, Int.reduceMul, reduceIte] at hrun
    rw [pick_call (withOpt_nil_lo (by decide)) (by rfl) hw] at hrun
    simp only [hd, TMA, Int.toNat_natCast, Nat.mul_one, RR, IA, PA, RA0, RA1, RA2, RA3, RA4, RA5, RA6, RA7, RA8, RA9, RA10, Nat.reduceAdd, Nat.reduceMul, Nat.reduceEqDiff, Nat.reduceLeDiff, Nat.reduceLT, Int.reduceToNat, Int.reduceLT, Int.reduceLE, Int.reduceEq, Int.reduceNeg, Int.reduceAdd, Int.reduceSub, Int.reduceMul, reduceIte] at hrun
    exact ⟨[c], p + 1 + 1, hrun _ (out_one rfl rfl rfl (src_cl l (p + 1 + 1)) rfl), by simp, by simp only [List.length_cons, List.length_nil]; omega, by omega⟩
set_option maxHeartbeats 8000000 in
theorem draw_b0n (l : List UInt8) (hl : l.length ≤ 2000) (k : Nat) (fuel : Int) (z o : List UInt8) (p : Nat) (hf : fuel ≤ 0) (hz : z.length ≤ 100) (ho : o.length ≤ 100) (hp : p + cD k ≤ 1000000) (hne : z = []) : DrawR l k 0 fuel z o p := by
  have hc : 2 ≤ cD k := by cases k <;> simp only [cD] <;> omega
  have hb : 1 ≤ bD k := by cases k <;> simp only [bD] <;> omega
  have hrun : ∀ y, ((evC II EE (withOpt (opt 43) pf) MX (strip (bodyOf Tryz.f43)) (st0 l p 0 fuel z o)).bind (outK II Tryz.f43.results.toList (.r 0 0 :: [N 0, N fuel, S z, S o]))) = some y → EE 43 [srcL l p, N 0, N fuel, S z, S o] = some y := fun y h => EE_lend T_draw (by decide) (Nat.le_of_ble_eq_true rfl) (src_cl l p) rfl h
  rw [show opt 43 = [] from rfl] at hrun
  simp only [st0, bodyOf, Tryz.f43, SA] at hrun
  subst hne
  obtain ⟨w, w0, w1, hw⟩ := pick_ev l hl p (by omega) 5 (by decide)
  obtain ⟨c, hd⟩ := dec_ev w w0 (by omega)
  simp only [hf, TMA, Int.toNat_natCast, Nat.mul_one, RR, IA, PA, RA0, RA1, RA2, RA3, RA4, RA5, RA6, RA7, RA8, RA9, RA10, Nat.reduceAdd, Nat.reduceMul, Nat.reduceEqDiff, Nat.reduceLeDiff, Nat.reduceLT, Int.reduceToNat, Int.reduceLT, Int.reduceLE, Int.reduceEq, Int.reduceNeg, Int.reduceAdd, Int.reduceSub, Int.reduceMul, reduceIte] at hrun
  rw [pick_call (withOpt_nil_lo (by decide)) (by rfl) hw] at hrun
  simp only [hd, TMA, Int.toNat_natCast, Nat.mul_one, RR, IA, PA, RA0, RA1, RA2, RA3, RA4, RA5, RA6, RA7, RA8, RA9, RA10, Nat.reduceAdd, Nat.reduceMul, Nat.reduceEqDiff, Nat.reduceLeDiff, Nat.reduceLT, Int.reduceToNat, Int.reduceLT, Int.reduceLE, Int.reduceEq, Int.reduceNeg, Int.reduceAdd, Int.reduceSub, Int.reduceMul, reduceIte] at hrun
  exact ⟨[c], p + 1, hrun _ (out_one rfl rfl rfl (src_cl l (p + 1)) rfl), by simp, by simp only [List.length_cons, List.length_nil]; omega, by omega⟩
set_option maxHeartbeats 8000000 in
theorem draw_b1 (l : List UInt8) (hl : l.length ≤ 2000) (k : Nat) (fuel : Int) (z o : List UInt8) (p : Nat) (hf : fuel ≤ 0) (hz : z.length ≤ 100) (ho : o.length ≤ 100) (hp : p + cD k ≤ 1000000) (hne : o ≠ []) : DrawR l k 1 fuel z o p := by
  have hc : 2 ≤ cD k := by cases k <;> simp only [cD] <;> omega
  have hb : 1 ≤ bD k := by cases k <;> simp only [bD] <;> omega
  have hrun : ∀ y, ((evC II EE (withOpt (opt 43) pf) MX (strip (bodyOf Tryz.f43)) (st0 l p 1 fuel z o)).bind (outK II Tryz.f43.results.toList (.r 0 0 :: [N 1, N fuel, S z, S o]))) = some y → EE 43 [srcL l p, N 1, N fuel, S z, S o] = some y := fun y h => EE_lend T_draw (by decide) (Nat.le_of_ble_eq_true rfl) (src_cl l p) rfl h
  rw [show opt 43 = [] from rfl] at hrun
  simp only [st0, bodyOf, Tryz.f43, SA] at hrun
  have hne' : (o == []) = false := by cases o <;> simp_all
  have hzl : 0 < o.length := List.length_pos_iff.2 hne
  obtain ⟨v, v0, v1, hv⟩ := pick_ev l hl p (by omega) 2 (by decide)
  simp only [hf, hne', TMA, Int.toNat_natCast, Nat.mul_one, RR, IA, PA, RA0, RA1, RA2, RA3, RA4, RA5, RA6, RA7, RA8, RA9, RA10, Nat.reduceAdd, Nat.reduceMul, Nat.reduceEqDiff, Nat.reduceLeDiff, Nat.reduceLT, Int.reduceToNat, Int.reduceLT, Int.reduceLE, Int.reduceEq, Int.reduceNeg, Int.reduceAdd, Int.reduceSub, Int.reduceMul, reduceIte] at hrun
  rw [pick_call (withOpt_nil_lo (by decide)) (by rfl) hv] at hrun
  by_cases hv0 : v = 0
  · obtain ⟨w, w0, w1, hw⟩ := pick_ev l hl (p + 1) (by omega) (o.length : Int) (by omega)
    have hwl := w1 (by omega)
    obtain ⟨w, rfl⟩ : ∃ k : Nat, w = (k : Int) := ⟨w.toNat, by omega⟩
    simp only [hv0, hne', TMA, Int.toNat_natCast, Nat.mul_one, RR, IA, PA, RA0, RA1, RA2, RA3, RA4, RA5, RA6, RA7, RA8, RA9, RA10, Nat.reduceAdd, Nat.reduceMul, Nat.reduceEqDiff, Nat.reduceLeDiff, Nat.reduceLT, Int.reduceToNat, Int.reduceLT, Int.reduceLE, Int.reduceEq, Int.reduceNeg, Int.reduceAdd, Int.reduceSub, Int.reduceMul, reduceIte] at hrun
    rw [pick_call (withOpt_nil_lo (by decide)) (by rfl) hw] at hrun
    obtain ⟨c, hcut⟩ := take_one_at o w (by omega)
    have hw1 : IntKind.i64.wrap ((w : Int) + 1) = ((w + 1 : Nat) : Int) := by rw [wrap64 (by omega) (by omega)]; rfl
    have hle : ((w : Int) ≤ ((w + 1 : Nat) : Int)) := by omega
    have hle2 : (((w + 1 : Nat) : Int) ≤ (o.length : Int)) := by omega
    simp only [hw1, w0, hle, hle2, hcut, TMA, Int.toNat_natCast, Nat.mul_one, RR, IA, PA, RA0, RA1, RA2, RA3, RA4, RA5, RA6, RA7, RA8, RA9, RA10, Nat.reduceAdd, Nat.reduceMul, Nat.reduceEqDiff, Nat.reduceLeDiff, Nat.reduceLT, Int.reduceToNat, Int.reduceLT, Int.reduceLE, Int.reduceEq, Int.reduceNeg, Int.reduceAdd, Int.reduceSub, Int.reduceMul, reduceIte] at hrun
    exact ⟨[c], p + 1 + 1, hrun _ (out_one rfl rfl rfl (src_cl l (p + 1 + 1)) rfl), by simp, by simp only [List.length_cons, List.length_nil]; omega, by omega⟩
  · simp only [hv0, hne', TMA, Int.toNat_natCast, Nat.mul_one, RR, IA, PA, RA0, RA1, RA2, RA3, RA4, RA5, RA6, RA7, RA8, RA9, RA10, Nat.reduceAdd, Nat.reduceMul, Nat.reduceEqDiff, Nat.reduceLeDiff, Nat.reduceLT, Int.reduceToNat, Int.reduceLT, Int.reduceLE, Int.reduceEq, Int.reduceNeg, Int.reduceAdd, Int.reduceSub, Int.reduceMul, reduceIte] at hrun
    exact ⟨[97], p + 1, hrun _ (out_one rfl rfl rfl (src_cl l (p + 1)) rfl), by simp, by simp only [List.length_cons, List.length_nil]; omega, by omega⟩
set_option maxHeartbeats 8000000 in
theorem draw_b1n (l : List UInt8) (hl : l.length ≤ 2000) (k : Nat) (fuel : Int) (z o : List UInt8) (p : Nat) (hf : fuel ≤ 0) (hz : z.length ≤ 100) (ho : o.length ≤ 100) (hp : p + cD k ≤ 1000000) (hne : o = []) : DrawR l k 1 fuel z o p := by
  have hc : 2 ≤ cD k := by cases k <;> simp only [cD] <;> omega
  have hb : 1 ≤ bD k := by cases k <;> simp only [bD] <;> omega
  have hrun : ∀ y, ((evC II EE (withOpt (opt 43) pf) MX (strip (bodyOf Tryz.f43)) (st0 l p 1 fuel z o)).bind (outK II Tryz.f43.results.toList (.r 0 0 :: [N 1, N fuel, S z, S o]))) = some y → EE 43 [srcL l p, N 1, N fuel, S z, S o] = some y := fun y h => EE_lend T_draw (by decide) (Nat.le_of_ble_eq_true rfl) (src_cl l p) rfl h
  rw [show opt 43 = [] from rfl] at hrun
  simp only [st0, bodyOf, Tryz.f43, SA] at hrun
  subst hne
  simp only [hf, TMA, Int.toNat_natCast, Nat.mul_one, RR, IA, PA, RA0, RA1, RA2, RA3, RA4, RA5, RA6, RA7, RA8, RA9, RA10, Nat.reduceAdd, Nat.reduceMul, Nat.reduceEqDiff, Nat.reduceLeDiff, Nat.reduceLT, Int.reduceToNat, Int.reduceLT, Int.reduceLE, Int.reduceEq, Int.reduceNeg, Int.reduceAdd, Int.reduceSub, Int.reduceMul, reduceIte] at hrun
  exact ⟨[97], p + 0, hrun _ (out_one rfl rfl rfl (src_cl l (p + 0)) rfl), by simp, by simp only [List.length_cons, List.length_nil]; omega, by omega⟩
set_option maxHeartbeats 8000000 in
theorem draw_b2 (l : List UInt8) (hl : l.length ≤ 2000) (k : Nat) (d : Int) (fuel : Int) (z o : List UInt8) (p : Nat) (hf : fuel ≤ 0) (hz : z.length ≤ 100) (ho : o.length ≤ 100) (hp : p + cD k ≤ 1000000) (h0 : ¬ d = 0) (h1 : ¬ d = 1) : DrawR l k d fuel z o p := by
  have hc : 2 ≤ cD k := by cases k <;> simp only [cD] <;> omega
  have hb : 1 ≤ bD k := by cases k <;> simp only [bD] <;> omega
  have hrun : ∀ y, ((evC II EE (withOpt (opt 43) pf) MX (strip (bodyOf Tryz.f43)) (st0 l p d fuel z o)).bind (outK II Tryz.f43.results.toList (.r 0 0 :: [N d, N fuel, S z, S o]))) = some y → EE 43 [srcL l p, N d, N fuel, S z, S o] = some y := fun y h => EE_lend T_draw (by decide) (Nat.le_of_ble_eq_true rfl) (src_cl l p) rfl h
  rw [show opt 43 = [] from rfl] at hrun
  simp only [st0, bodyOf, Tryz.f43, SA] at hrun
  simp only [hf, h0, h1, TMA, Int.toNat_natCast, Nat.mul_one, RR, IA, PA, RA0, RA1, RA2, RA3, RA4, RA5, RA6, RA7, RA8, RA9, RA10, Nat.reduceAdd, Nat.reduceMul, Nat.reduceEqDiff, Nat.reduceLeDiff, Nat.reduceLT, Int.reduceToNat, Int.reduceLT, Int.reduceLE, Int.reduceEq, Int.reduceNeg, Int.reduceAdd, Int.reduceSub, Int.reduceMul, reduceIte] at hrun
  exact ⟨[98], p + 0, hrun _ (out_one rfl rfl rfl (src_cl l (p + 0)) rfl), by simp, by simp only [List.length_cons, List.length_nil]; omega, by omega⟩
theorem draw_base (l : List UInt8) (hl : l.length ≤ 2000) (k : Nat) (d fuel : Int) (z o : List UInt8) (p : Nat) (hf : fuel ≤ 0) (hz : z.length ≤ 100) (ho : o.length ≤ 100) (hp : p + cD k ≤ 1000000) : DrawR l k d fuel z o p := by
  by_cases h0 : d = 0
  · subst h0
    by_cases hne : z = []
    · exact draw_b0n l hl k fuel z o p hf hz ho hp hne
    · exact draw_b0 l hl k fuel z o p hf hz ho hp hne
  · by_cases h1 : d = 1
    · subst h1
      by_cases hne : o = []
      · exact draw_b1n l hl k fuel z o p hf hz ho hp hne
      · exact draw_b1 l hl k fuel z o p hf hz ho hp hne
    · exact draw_b2 l hl k d fuel z o p hf hz ho hp h0 h1
end
end Go.Proofs.YtegbkihgnofkfaaGreatDoor.Ev
