/-
Texts Vr to Vs of the work.
-/
import Derived.Test.YtegbkihgnofkfaaGreatDoorZVp
/-
Code: where a loop ends, the variables within it: the reference.
-/
namespace Go.Proofs.YtegbkihgnofkfaaGreatDoor.Ev
section
set_option linter.unusedVariables false
set_option linter.unusedSimpArgs false
open Go Go.RowKit
set_option linter.unusedVariables false
set_option linter.unusedSimpArgs false
/-- How many instructions there are ahead of the end of the loop, d loops having begun. -/
def clo : Int → List (List UInt8) → Nat
  | _, [] => 0
  | d, x :: l => if endM x = true ∧ d = 1 then 0 else 1 + clo (d + dL x) l
def sumL (l : List (List UInt8)) : Int := (l.map dL).sum
theorem sumL_cons (x : List UInt8) (l : List (List UInt8)) : sumL (x :: l) = dL x + sumL l := by simp [sumL]
theorem sumL_append (a b : List (List UInt8)) : sumL (a ++ b) = sumL a + sumL b := by simp [sumL]
theorem dL_end {x : List UInt8} (h : endM x = true) : dL x = -1 := by
  have hb : begM x = false := by
    cases hb : begM x
    · rfl
    · rw [beg_end hb] at h; cases h
  simp [dL, hb, h]
theorem clo_lt : ∀ (l : List (List UInt8)) (d : Int), 1 ≤ d → d + sumL l ≤ 0 → clo d l < l.length
  | [], d, h1, h2 => by simp [sumL] at h2; omega
  | x :: l, d, h1, h2 => by
    rw [clo]
    split
    · simp
    · rename_i hn
      rw [sumL_cons] at h2
      have h3 : 1 ≤ d + dL x := by
        by_cases he : endM x = true
        · have := dL_end he
          have : d ≠ 1 := fun e => hn ⟨he, e⟩
          omega
        · have : 0 ≤ dL x := by
            unfold dL
            split
            · omega
            · simp [he]
          omega
      have := clo_lt l (d + dL x) h3 (by omega)
      simp only [List.length_cons]
      omega
theorem kind_91 {x : List UInt8} (h : kindM x = 91) : begM x = true := by
  unfold kindM at h
  split at h
  · rename_i a b
    split at h
    · rename_i hc
      simp only [Bool.and_eq_true] at hc
      exact hc.1
    · cases h
  · repeat' split at h
    all_goals first | (cases h; done) | (exact absurd h (by decide))
  · cases h
theorem kind_93 {x : List UInt8} : kindM x = 93 ↔ endM x = true := by
  constructor
  · intro h
    unfold kindM at h
    split at h
    · split at h
      · exact absurd h (by decide)
      · exact absurd h (by decide)
    · rename_i a
      split at h
      · exact absurd h (by decide)
      split at h
      · exact absurd h (by decide)
      split at h
      · exact absurd h (by decide)
      split at h
      · rename_i hc
        exact hc
      · exact absurd h (by decide)
    · exact absurd h (by decide)
  · intro h
    unfold endM at h
    split at h
    · rename_i a
      exact kind_end (by simpa using h)
    · cases h
/-- Beginnings of loops have a variable. -/
def Begs (L : List (List UInt8)) : Prop := ∀ y ∈ L, begM y = true → kindM y = 91
theorem T_l7Close : TT 20 = some (Tryz.f20, bodyOf Tryz.f20) := by kernel_rfl
theorem u8_int (a b : UInt8) : decide ((a.toNat : Int) = (b.toNat : Int)) = decide (a = b) := by
  rw [decide_eq_decide]
  constructor
  · intro h
    exact UInt8.toNat_inj.1 (by omega)
  · intro h
    rw [h]
theorem l7Close_loop (x : Bool) (L : List (List UInt8)) (hL : L.length < 100000000) (hB : Begs L) : ∀ (r : List (List UInt8)) (i n : Nat) (d : Int) (e : Nat → AV) (σ : Sto) (nx : Nat) (q : Option (Ex × St)),
    L.drop i = r → r.length < n → 1 ≤ d → d ≤ i → clo d r < r.length → roundsE (evC II EE (withOpt [] pf) MX (bodyL Tryz.f20 0)) n ⟨e, σ, nx⟩ = q →
    e 0 = .s x L.length (strs L) → e 5 = N d → e 6 = N i → ∃ e' nx', q = some (.ret, ⟨e', σ, nx'⟩) ∧ e' 4 = N (i + clo d r : Nat) := by
  intro r
  induction r with
  | nil => intro i n d e σ nx q hd hn hd1 hdi hcl; simp at hcl
  | cons z r ih =>
    intro i n d e σ nx q hd hn hd1 hdi hcl hq h0 h5 h6
    obtain ⟨hi, hx, hd'⟩ := strs_drop_head hd
    obtain ⟨k, rfl⟩ : ∃ k, n = k + 1 := ⟨n - 1, by omega⟩
    rw [rounds_rd] at hq
    have hc : ((i : Int) < (L.length : Int)) := by omega
    have hz : (0 : Int) ≤ (i : Int) := by omega
    have hw : IntKind.i64.wrap ((i : Int) + 1) = ((i + 1 : Nat) : Int) := by rw [wrap64 (by omega) (by omega)]; rfl
    have hhd : ((strs L).drop i).head? = some (S z) := by rw [strs_drop, hd]; rfl
    have hk := l7Kind_ev z
    have e91 : decide (((kindM z).toNat : Int) = 91) = decide (kindM z = 91) := u8_int (kindM z) 91
    have e93 : decide (((kindM z).toNat : Int) = 93) = decide (kindM z = 93) := u8_int (kindM z) 93
    simp only [bodyL, bodyOf, Tryz.f20, SA, loops, List.nil_append, List.append_nil, List.cons_append, List.getD_cons_zero, List.getD_cons_succ] at hq
    by_cases hb : begM z = true
    · have hk91 := hB z (List.mem_of_getElem? hx) hb
      have hdl : dL z = 1 := by simp [dL, hb]
      have hen : endM z = false := beg_end hb
      have hw1 : IntKind.i64.wrap (d + 1) = d + dL z := by rw [hdl, wrap64 (by omega) (by omega)]
      have hd0 : ¬ (d + dL z = 0) := by omega
      have hkb : decide (kindM z = 91) = true := by simp [hk91]
      rw [clo, if_neg (by simp [hen])] at hcl ⊢
      simp only [List.length_cons] at hcl
      simp only [h0, h5, h6, hc, hz, hw, hw1, hd0, hhd, hk, e91, hkb, Int.toNat_natCast, Nat.mul_one, Nat.zero_add, RR, IA, PA, RA0, RA1, RA2, RA3, RA4, RA5, RA6, RA7, RA8, RA9, RA10, Nat.reduceAdd, Nat.reduceMul, Nat.reduceEqDiff, Nat.reduceLeDiff, Nat.reduceLT, Int.reduceToNat, Int.reduceLT, Int.reduceLE, Int.reduceEq, Int.reduceNeg, Int.reduceAdd, Int.reduceSub, Int.reduceMul, reduceIte] at hq
      obtain ⟨e', nx', h1, h2⟩ := ih (i + 1) k (d + dL z) _ σ _ q hd' (by simpa using hn) (by omega) (by omega) (by omega) hq h0 rfl rfl
      exact ⟨e', nx', h1, by rw [h2, show i + 1 + clo (d + dL z) r = i + (1 + clo (d + dL z) r) by omega]⟩
    · have hbf : begM z = false := by simpa using hb
      have hkb : decide (kindM z = 91) = false := by
        simp only [decide_eq_false_iff_not]
        intro h
        exact hb (kind_91 h)
      by_cases he : endM z = true
      · have hdl : dL z = -1 := dL_end he
        have hke : decide (kindM z = 93) = true := by simp [kind_93.2 he]
        have hw1 : IntKind.i64.wrap (d - 1) = d + dL z := by rw [hdl, wrap64 (by omega) (by omega)]; omega
        by_cases hd1' : d = 1
        · have hd0 : d + dL z = 0 := by omega
          rw [clo, if_pos ⟨he, hd1'⟩]
          simp only [h0, h5, h6, hc, hz, hw, hw1, hd0, hhd, hk, e91, e93, hkb, hke, Int.toNat_natCast, Nat.mul_one, Nat.zero_add, RR, IA, PA, RA0, RA1, RA2, RA3, RA4, RA5, RA6, RA7, RA8, RA9, RA10, Nat.reduceAdd, Nat.reduceMul, Nat.reduceEqDiff, Nat.reduceLeDiff, Nat.reduceLT, Int.reduceToNat, Int.reduceLT, Int.reduceLE, Int.reduceEq, Int.reduceNeg, Int.reduceAdd, Int.reduceSub, Int.reduceMul, reduceIte] at hq
          exact ⟨_, _, hq.symm, rfl⟩
        · have hd0 : ¬ (d + dL z = 0) := by omega
          rw [clo, if_neg (fun h => hd1' h.2)] at hcl ⊢
          simp only [List.length_cons] at hcl
          simp only [h0, h5, h6, hc, hz, hw, hw1, hd0, hhd, hk, e91, e93, hkb, hke, Int.toNat_natCast, Nat.mul_one, Nat.zero_add, RR, IA, PA, RA0, RA1, RA2, RA3, RA4, RA5, RA6, RA7, RA8, RA9, RA10, Nat.reduceAdd, Nat.reduceMul, Nat.reduceEqDiff, Nat.reduceLeDiff, Nat.reduceLT, Int.reduceToNat, Int.reduceLT, Int.reduceLE, Int.reduceEq, Int.reduceNeg, Int.reduceAdd, Int.reduceSub, Int.reduceMul, reduceIte] at hq
          obtain ⟨e', nx', h1, h2⟩ := ih (i + 1) k (d + dL z) _ σ _ q hd' (by simpa using hn) (by omega) (by omega) (by omega) hq h0 rfl rfl
          exact ⟨e', nx', h1, by rw [h2, show i + 1 + clo (d + dL z) r = i + (1 + clo (d + dL z) r) by omega]⟩
      · have hdl : dL z = 0 := by simp [dL, hbf, he]
        have hke : decide (kindM z = 93) = false := by
          simp only [decide_eq_false_iff_not]
          intro h
          exact he (kind_93.1 h)
        have hd0 : ¬ (d = 0) := by omega
        rw [clo, if_neg (fun h => he h.1)] at hcl ⊢
        simp only [List.length_cons] at hcl
        simp only [h0, h5, h6, hc, hz, hw, hd0, hhd, hk, e91, e93, hkb, hke, Int.toNat_natCast, Nat.mul_one, Nat.zero_add, RR, IA, PA, RA0, RA1, RA2, RA3, RA4, RA5, RA6, RA7, RA8, RA9, RA10, Nat.reduceAdd, Nat.reduceMul, Nat.reduceEqDiff, Nat.reduceLeDiff, Nat.reduceLT, Int.reduceToNat, Int.reduceLT, Int.reduceLE, Int.reduceEq, Int.reduceNeg, Int.reduceAdd, Int.reduceSub, Int.reduceMul, reduceIte] at hq
        obtain ⟨e', nx', h1, h2⟩ := ih (i + 1) k (d + dL z) _ σ _ q hd' (by simpa using hn) (by omega) (by omega) (by omega) hq h0 (by rw [hdl, Int.add_zero]; exact h5) rfl
        exact ⟨e', nx', h1, by rw [h2, show i + 1 + clo (d + dL z) r = i + (1 + clo (d + dL z) r) by omega]⟩
theorem l7Close_ev (x : Bool) (L : List (List UInt8)) (hL : L.length < 100000000) (hB : Begs L) (i : Nat) (z : List UInt8) (r : List (List UInt8)) (hd : L.drop i = z :: r) (hb : begM z = true) (hcl : clo 1 r < r.length) :
    EE 20 [.s x L.length (strs L), N i] = some (N (i + 1 + clo 1 r : Nat)) := by
  refine EE_plain T_l7Close (by decide) (Nat.le_of_ble_eq_true rfl) (by simp only [closedL, closed, strs_closed, Bool.and_self]) ?_
  rw [show opt 20 = [] from rfl]
  simp only [bodyOf, Tryz.f20, SA]
  simp only [RR, IA, PA, RA0, RA1, RA2, RA3, RA4, RA5, RA6, RA7, RA8, RA9, RA10, Nat.reduceAdd, Nat.reduceMul, Nat.reduceEqDiff, Nat.reduceLeDiff, Nat.reduceLT, Int.reduceToNat, Int.reduceLT, Int.reduceLE, Int.reduceEq, Int.reduceNeg, Int.reduceAdd, Int.reduceSub, Int.reduceMul, reduceIte]
  generalize hq : roundsE _ _ _ = q
  obtain ⟨hi, hx, hd'⟩ := strs_drop_head hd
  obtain ⟨k, hk⟩ : ∃ k, MX = k + 1 := ⟨MX - 1, rfl⟩
  have hMX : L.length + 5 < MX := Nat.lt_of_lt_of_le (show L.length + 5 < 100000005 by omega) (Nat.le_of_ble_eq_true rfl)
  rw [hk, rounds_rd] at hq
  have hc : ((i : Int) < (L.length : Int)) := by omega
  have hz : (0 : Int) ≤ (i : Int) := by omega
  have hw : IntKind.i64.wrap ((i : Int) + 1) = ((i + 1 : Nat) : Int) := by rw [wrap64 (by omega) (by omega)]; rfl
  have hhd : ((strs L).drop i).head? = some (S z) := by rw [strs_drop, hd]; rfl
  have hkk := l7Kind_ev z
  rw [hB z (List.mem_of_getElem? hx) hb] at hkk
  have hu : U 91 = .v (.int .u8 91) := rfl
  rw [hu] at hkk
  simp only [hc, hz, hw, hhd, hkk, Int.toNat_natCast, Nat.mul_one, Nat.zero_add, RR, IA, PA, RA0, RA1, RA2, RA3, RA4, RA5, RA6, RA7, RA8, RA9, RA10, Nat.reduceAdd, Nat.reduceMul, Nat.reduceEqDiff, Nat.reduceLeDiff, Nat.reduceLT, Int.reduceToNat, Int.reduceLT, Int.reduceLE, Int.reduceEq, Int.reduceNeg, Int.reduceAdd, Int.reduceSub, Int.reduceMul, reduceIte] at hq
  have hlr : r.length < k := by
    have : (L.drop i).length = r.length + 1 := by rw [hd]; rfl
    rw [List.length_drop] at this
    omega
  obtain ⟨e', nx', rfl, h4⟩ := l7Close_loop x L hL hB r (i + 1) k 1 _ _ _ q hd' hlr (by omega) (by omega) hcl hq rfl rfl rfl
  simp only [h4, RR, IA, PA, RA0, RA1, RA2, RA3, RA4, RA5, RA6, RA7, RA8, RA9, RA10, Nat.reduceAdd, Nat.reduceMul, Nat.reduceEqDiff, Nat.reduceLeDiff, Nat.reduceLT, Int.reduceToNat, Int.reduceLT, Int.reduceLE, Int.reduceEq, Int.reduceNeg, Int.reduceAdd, Int.reduceSub, Int.reduceMul, reduceIte]
end
end Go.Proofs.YtegbkihgnofkfaaGreatDoor.Ev

/-
Code: the variables among instructions: the reference.
-/
namespace Go.Proofs.YtegbkihgnofkfaaGreatDoor.Ev
section
set_option linter.unusedVariables false
set_option linter.unusedSimpArgs false
open Go Go.RowKit
set_option linter.unusedVariables false
set_option linter.unusedSimpArgs false
def V7 : List (List UInt8) := [[97], [98], [118], [119], [120], [121], [122]]
theorem T_l7Vars : TT 19 = some (Tryz.f19, bodyOf Tryz.f19) := by kernel_rfl
theorem l7Vars_in (x : Bool) (L : List (List UInt8)) (hL : L.length < 100000000) (v : List UInt8) : ∀ (r : List (List UInt8)) (j n : Nat) (b : Bool) (e : Nat → AV) (σ : Sto) (nx : Nat) (q : Option (Ex × St)),
    L.drop j = r → r.length < n → roundsE (evC II EE (withOpt [] pf) MX (bodyL Tryz.f19 1)) n ⟨e, σ, nx⟩ = q →
    e 15 = .s x L.length (strs L) → e 16 = N L.length → e 17 = N j → e 6 = B b → e 5 = S v →
    ∃ e' nx', q = some (.exit 2, ⟨e', σ, nx'⟩) ∧ e' 6 = B (b || r.contains v) ∧ e' 0 = e 0 ∧ e' 3 = e 3 ∧ e' 5 = e 5 ∧ e' 9 = e 9 ∧ e' 10 = e 10 ∧ e' 11 = e 11 := by
  intro r
  induction r with
  | nil =>
    intro j n b e σ nx q hd hn hq h15 h16 h17 h6 h5
    have hlen : L.length ≤ j := by simpa using hd
    obtain ⟨k, rfl⟩ : ∃ k, n = k + 1 := ⟨n - 1, by omega⟩
    rw [rounds_rd] at hq
    have hc : ¬ ((j : Int) < (L.length : Int)) := by omega
    simp only [bodyL, bodyOf, Tryz.f19, SA, loops, List.nil_append, List.append_nil, List.cons_append, List.getD_cons_zero, List.getD_cons_succ] at hq
    simp only [h16, h17, hc, IA, PA, RA0, RA1, RA2, RA3, RA4, RA5, RA6, RA7, RA8, RA9, RA10, Nat.reduceAdd, Nat.reduceMul, Nat.reduceEqDiff, Nat.reduceLeDiff, Nat.reduceLT, Int.reduceToNat, Int.reduceLT, Int.reduceLE, Int.reduceEq, Int.reduceNeg, Int.reduceAdd, Int.reduceSub, Int.reduceMul, reduceIte] at hq
    exact ⟨_, _, hq.symm, by simpa using h6, rfl, rfl, rfl, rfl, rfl, rfl⟩
  | cons z r ih =>
    intro j n b e σ nx q hd hn hq h15 h16 h17 h6 h5
    obtain ⟨hi, hx, hd'⟩ := strs_drop_head hd
    obtain ⟨k, rfl⟩ : ∃ k, n = k + 1 := ⟨n - 1, by omega⟩
    rw [rounds_rd] at hq
    have hc : ((j : Int) < (L.length : Int)) := by omega
    have hz : (0 : Int) ≤ (j : Int) := by omega
    have hw : IntKind.i64.wrap ((j : Int) + 1) = ((j + 1 : Nat) : Int) := by rw [wrap64 (by omega) (by omega)]; rfl
    have hhd : ((strs L).drop j).head? = some (S z) := by rw [strs_drop, hd]; rfl
    simp only [bodyL, bodyOf, Tryz.f19, SA, loops, List.nil_append, List.append_nil, List.cons_append, List.getD_cons_zero, List.getD_cons_succ] at hq
    have hco : (b || (z :: r).contains v) = ((b || (z == v)) || r.contains v) := by
      rw [List.contains_cons, show (v == z) = (z == v) from Bool.beq_comm, Bool.or_assoc]
    cases b
    · generalize hzv : (z == v) = zv at hco
      simp only [h15, h16, h17, h6, h5, hc, hz, hw, hhd, hzv, Int.toNat_natCast, Nat.mul_one, Nat.zero_add, RR, IA, PA, RA0, RA1, RA2, RA3, RA4, RA5, RA6, RA7, RA8, RA9, RA10, Nat.reduceAdd, Nat.reduceMul, Nat.reduceEqDiff, Nat.reduceLeDiff, Nat.reduceLT, Int.reduceToNat, Int.reduceLT, Int.reduceLE, Int.reduceEq, Int.reduceNeg, Int.reduceAdd, Int.reduceSub, Int.reduceMul, reduceIte] at hq
      obtain ⟨e', nx', h1, h2, h3⟩ := ih (j + 1) k zv _ σ _ q hd' (by simpa using hn) hq h15 h16 rfl rfl h5
      exact ⟨e', nx', h1, by rw [h2, hco]; simp, h3⟩
    · simp only [h15, h16, h17, h6, h5, hc, hz, hw, hhd, Int.toNat_natCast, Nat.mul_one, Nat.zero_add, RR, IA, PA, RA0, RA1, RA2, RA3, RA4, RA5, RA6, RA7, RA8, RA9, RA10, Nat.reduceAdd, Nat.reduceMul, Nat.reduceEqDiff, Nat.reduceLeDiff, Nat.reduceLT, Int.reduceToNat, Int.reduceLT, Int.reduceLE, Int.reduceEq, Int.reduceNeg, Int.reduceAdd, Int.reduceSub, Int.reduceMul, reduceIte] at hq
      obtain ⟨e', nx', h1, h2, h3⟩ := ih (j + 1) k true _ σ _ q hd' (by simpa using hn) hq h15 h16 rfl rfl h5
      exact ⟨e', nx', h1, by rw [h2, hco]; simp, h3⟩
theorem l7Vars_out (x : Bool) (L : List (List UInt8)) (hL : L.length < 100000000) : ∀ (r : List (List UInt8)) (i n : Nat) (out : List UInt8) (e : Nat → AV) (σ : Sto) (nx : Nat) (q : Option (Ex × St)),
    V7.drop i = r → (∀ v ∈ r, v.length = 1) → r.length < n → out.length ≤ i → roundsE (evC II EE (withOpt [] pf) MX (bodyL Tryz.f19 0)) n ⟨e, σ, nx⟩ = q →
    e 0 = .s x L.length (strs L) → e 3 = S out → e 9 = .s true 7 (strs V7) → e 10 = N 7 → e 11 = N i →
    ∃ e' nx', q = some (.exit 0, ⟨e', σ, nx'⟩) ∧ e' 3 = S (out ++ (r.filter fun v => L.contains v).flatten) := by
  intro r
  induction r with
  | nil =>
    intro i n out e σ nx q hd hv hn ho hq h0 h3 h9 h10 h11
    have hlen : 7 ≤ i := by simpa [V7] using hd
    obtain ⟨k, rfl⟩ : ∃ k, n = k + 1 := ⟨n - 1, by omega⟩
    rw [rounds_rd] at hq
    have hc : ¬ ((i : Int) < 7) := by omega
    simp only [bodyL, bodyOf, Tryz.f19, SA, loops, List.nil_append, List.append_nil, List.cons_append, List.getD_cons_zero, List.getD_cons_succ] at hq
    simp only [h10, h11, hc, IA, PA, RA0, RA1, RA2, RA3, RA4, RA5, RA6, RA7, RA8, RA9, RA10, Nat.reduceAdd, Nat.reduceMul, Nat.reduceEqDiff, Nat.reduceLeDiff, Nat.reduceLT, Int.reduceToNat, Int.reduceLT, Int.reduceLE, Int.reduceEq, Int.reduceNeg, Int.reduceAdd, Int.reduceSub, Int.reduceMul, reduceIte] at hq
    exact ⟨_, _, hq.symm, by simpa using h3⟩
  | cons v r ih =>
    intro i n out e σ nx q hd hv hn ho hq h0 h3 h9 h10 h11
    obtain ⟨hi, hx, hd'⟩ := strs_drop_head hd
    have hi7 : i < 7 := hi
    have hv7 : V7.length = 7 := rfl
    have hc7 : ((i : Int) < ((7 : Nat) : Int)) := by omega
    have hv1 := hv v (by simp)
    obtain ⟨k, rfl⟩ : ∃ k, n = k + 1 := ⟨n - 1, by omega⟩
    rw [rounds_rd] at hq
    have hc : ((i : Int) < 7) := by omega
    have hz : (0 : Int) ≤ (i : Int) := by omega
    have hw : IntKind.i64.wrap ((i : Int) + 1) = ((i + 1 : Nat) : Int) := by rw [wrap64 (by omega) (by omega)]; rfl
    have hhd : ((strs V7).drop i).head? = some (S v) := by rw [strs_drop, hd]; rfl
    simp only [bodyL, bodyOf, Tryz.f19, SA, loops, List.nil_append, List.append_nil, List.cons_append, List.getD_cons_zero, List.getD_cons_succ] at hq
    simp only [h0, h3, h9, h10, h11, hc, hc7, hv7, hz, hhd, Int.toNat_natCast, Nat.mul_one, Nat.zero_add, RR, IA, PA, RA0, RA1, RA2, RA3, RA4, RA5, RA6, RA7, RA8, RA9, RA10, Nat.reduceAdd, Nat.reduceMul, Nat.reduceEqDiff, Nat.reduceLeDiff, Nat.reduceLT, Int.reduceToNat, Int.reduceLT, Int.reduceLE, Int.reduceEq, Int.reduceNeg, Int.reduceAdd, Int.reduceSub, Int.reduceMul, reduceIte] at hq
    generalize hq2 : roundsE _ MX _ = q2 at hq
    obtain ⟨e2, nx2, rfl, g6, g0, g3, g5, g9, g10, g11⟩ := l7Vars_in x L hL v L 0 MX false _ σ _ q2 rfl (lt_MX (by omega)) hq2 rfl rfl rfl rfl rfl
    have k0 : e2 0 = .s x L.length (strs L) := g0.trans h0
    have k3 : e2 3 = S out := g3.trans h3
    have k5 : e2 5 = S v := g5
    have k9 : e2 9 = .s true 7 (strs V7) := g9.trans h9
    have k10 : e2 10 = N 7 := g10.trans h10
    have k11 : e2 11 = N i := g11.trans h11
    rw [Bool.false_or] at g6
    clear hq2
    by_cases hin : L.contains v = true
    · rw [hin] at g6
      simp only [g6, k3, k5, k11, hw, hc7, hv7, str_addIf, RR, IA, PA, RA0, RA1, RA2, RA3, RA4, RA5, RA6, RA7, RA8, RA9, RA10, Nat.reduceAdd, Nat.reduceMul, Nat.reduceEqDiff, Nat.reduceLeDiff, Nat.reduceLT, Int.reduceToNat, Int.reduceLT, Int.reduceLE, Int.reduceEq, Int.reduceNeg, Int.reduceAdd, Int.reduceSub, Int.reduceMul, reduceIte] at hq
      rw [if_pos (by omega)] at hq
      obtain ⟨e', nx', h1, h2⟩ := ih (i + 1) k (out ++ v) _ σ _ q hd' (fun w hw => hv w (by simp [hw])) (by simpa using hn) (by simp [hv1]; omega) hq k0 rfl k9 k10 rfl
      exact ⟨e', nx', h1, by rw [h2, List.filter_cons_of_pos (by exact hin)]; simp⟩
    · have hinf : L.contains v = false := by simpa using hin
      rw [hinf] at g6
      simp only [g6, k3, k5, k11, hw, hc7, hv7, str_addIf, RR, IA, PA, RA0, RA1, RA2, RA3, RA4, RA5, RA6, RA7, RA8, RA9, RA10, Nat.reduceAdd, Nat.reduceMul, Nat.reduceEqDiff, Nat.reduceLeDiff, Nat.reduceLT, Int.reduceToNat, Int.reduceLT, Int.reduceLE, Int.reduceEq, Int.reduceNeg, Int.reduceAdd, Int.reduceSub, Int.reduceMul, reduceIte] at hq
      obtain ⟨e', nx', h1, h2⟩ := ih (i + 1) k out _ σ _ q hd' (fun w hw => hv w (by simp [hw])) (by simpa using hn) (by omega) hq k0 k3 k9 k10 rfl
      exact ⟨e', nx', h1, by rw [h2, List.filter_cons_of_neg (by exact hin)]⟩
theorem l7Vars_ev (x : Bool) (L : List (List UInt8)) (hL : L.length < 100000000) : EE 19 [.s x L.length (strs L)] = some (S ((V7.filter fun v => L.contains v).flatten)) := by
  refine EE_plain T_l7Vars (by decide) (Nat.le_of_ble_eq_true rfl) (by simp only [closedL, closed, strs_closed, Bool.and_self]) ?_
  rw [show opt 19 = [] from rfl]
  simp only [bodyOf, Tryz.f19, SA]
  have hbs : bsK (fun _ => none) 7 [(0, S [97]), (1, S [98]), (2, S [118]), (3, S [119]), (4, S [120]), (5, S [121]), (6, S [122])] (some ⟨.str, 1, 16, [.string ⟨#[]⟩]⟩) = some (.s true 7 (strs V7), fun _ => none) := rfl
  simp only [RR, IA, PA, RA0, RA1, RA2, RA3, RA4, RA5, RA6, RA7, RA8, RA9, RA10, Nat.reduceAdd, Nat.reduceMul, Nat.reduceEqDiff, Nat.reduceLeDiff, Nat.reduceLT, Int.reduceToNat, Int.reduceLT, Int.reduceLE, Int.reduceEq, Int.reduceNeg, Int.reduceAdd, Int.reduceSub, Int.reduceMul, reduceIte]
  rw [hbs]
  simp only [RR, IA, PA, RA0, RA1, RA2, RA3, RA4, RA5, RA6, RA7, RA8, RA9, RA10, Nat.reduceAdd, Nat.reduceMul, Nat.reduceEqDiff, Nat.reduceLeDiff, Nat.reduceLT, Int.reduceToNat, Int.reduceLT, Int.reduceLE, Int.reduceEq, Int.reduceNeg, Int.reduceAdd, Int.reduceSub, Int.reduceMul, reduceIte]
  generalize hq : roundsE _ _ _ = q
  have key := fun a b c d e' => l7Vars_out x L hL V7 0 MX [] _ _ _ q rfl (by simp [V7]) (lt_MX (by decide)) (Nat.le_refl _) hq a b c d e'
  obtain ⟨e', nx', rfl, h3⟩ := key rfl rfl rfl rfl rfl
  simp only [h3, List.nil_append, RR, IA, PA, RA0, RA1, RA2, RA3, RA4, RA5, RA6, RA7, RA8, RA9, RA10, Nat.reduceAdd, Nat.reduceMul, Nat.reduceEqDiff, Nat.reduceLeDiff, Nat.reduceLT, Int.reduceToNat, Int.reduceLT, Int.reduceLE, Int.reduceEq, Int.reduceNeg, Int.reduceAdd, Int.reduceSub, Int.reduceMul, reduceIte]
end
end Go.Proofs.YtegbkihgnofkfaaGreatDoor.Ev
