/-
Texts Ea to Eb of the work.
-/
import Derived.Test.YtegbkihgnofkfaaDoorZDh
import Derived.Test.YtegbkihgnofkfaaDoorZWg
import Derived.Test.YtegbkihgnofkfaaDoorZVl
/-
Draws: texts that are mostly codes (written by wip/tools/gen_ea.py).
-/
namespace Go.Proofs.YtegbkihgnofkfaaDoor.Ev
section
set_option linter.unusedVariables false
set_option linter.unusedSimpArgs false
open Go Go.RowKit
set_option linter.unusedVariables false
set_option linter.unusedSimpArgs false
theorem T_specCodeOf : TT 10 = some (Tryd.f10, bodyOf Tryd.f10) := by kernel_rfl
theorem T_some7 : TT 61 = some (Tryd.f61, bodyOf Tryd.f61) := by kernel_rfl
theorem code_len {t c : List UInt8} (h : codeT t = some c) : c.length ≤ 240 := by
  unfold codeT at h
  obtain ⟨x, hx, rfl⟩ := Option.map_eq_some_iff.1 h
  have h1 := joinS_len (listT x) (list_short x)
  have h2 := (rdT_wf hx).2.1
  omega
theorem list_pos : ∀ t, ∀ y ∈ listT t, 0 < y.length := by
  intro t
  induction t with
  | dig c => intro y hy; simp only [listT, List.mem_singleton] at hy; subst hy; simp
  | var c => intro y hy; simp only [listT, List.mem_singleton] at hy; subst hy; simp
  | one s x ih =>
    intro y hy
    simp only [listT, List.mem_append, List.mem_singleton] at hy
    rcases hy with hy | rfl
    · exact ih y hy
    · simp
  | two s x y ihx ihy =>
    intro z hz
    simp only [listT, List.mem_append, List.mem_singleton] at hz
    rcases hz with (hz | hz) | rfl
    · exact ihx z hz
    · exact ihy z hz
    · simp
  | loop s v x y ihx ihy =>
    intro z hz
    simp only [listT, List.mem_append, List.mem_singleton] at hz
    rcases hz with ((hz | rfl) | hz) | rfl
    · exact ihx z hz
    · simp
    · exact ihy z hz
    · simp
theorem code_pos {t c : List UInt8} (h : codeT t = some c) : 0 < c.length := by
  unfold codeT at h
  obtain ⟨x, hx, rfl⟩ := Option.map_eq_some_iff.1 h
  have hw := (rdT_wf hx).1
  have h1 := cut_list hw
  rcases Nat.eq_zero_or_pos (joinS (listT x)).length with h0 | h0
  · exfalso
    rw [List.length_eq_zero_iff.1 h0] at h1
    have h2 : cutL 32 [] = [[]] := rfl
    rw [h2] at h1
    have h3 := list_pos x [] (by rw [← h1]; exact List.mem_singleton.2 rfl)
    simp at h3
  · exact h0
def codeV (t : List UInt8) : AV := match codeT t with
  | some c => .t [S c, B true]
  | none => .t [S [], B false]
theorem adopt_encN2 (σ : Sto) (key : Nat) (x : T) (b : Bool) : adopt σ key (.t [.a (encN x), B b]) = some (.t [.a (encN x), B b], σ) := adopt_two (by simp only [closed, encN_closed]) rfl
theorem adopt_zc2 (σ : Sto) (key : Nat) (b : Bool) : adopt σ key (.t [.a zc, B b]) = some (.t [.a zc, B b], σ) := adopt_two rfl rfl
theorem adopt_sb2 (σ : Sto) (key : Nat) (l : List UInt8) (b : Bool) : adopt σ key (.t [S l, B b]) = some (.t [S l, B b], σ) := adopt_two rfl rfl
theorem give_sb2 {σ : Sto} (l : List UInt8) (b : Bool) : giveAll σ [S l, B b] = some (.t [S l, B b]) := give_two rfl rfl
set_option maxHeartbeats 4000000 in
theorem specCodeOf_ev (t : List UInt8) (hl : t.length < 1000000000) : EE 10 [S t] = some (codeV t) := by
  have h := l5Read_ev t (by omega)
  refine EE_plain T_specCodeOf (by decide) (Nat.le_of_ble_eq_true rfl) rfl ?_
  rw [show opt 10 = [] from rfl]
  simp only [bodyOf, Tryd.f10, SA]
  unfold codeV codeT
  cases hr : rdT t with
  | none =>
    rw [hr] at h
    have zl : zc.length = 3 := rfl
    have zf : zc.all leafOk = true := rfl
    simp only [h, hr, zl, zf, adopt_zc2, give_sb2, Option.map_none, TMA, Int.toNat_natCast, Nat.mul_one, RR, IA, PA, RA0, RA1, RA2, RA3, RA4, RA5, RA6, RA7, RA8, RA9, RA10, Nat.reduceAdd, Nat.reduceMul, Nat.reduceEqDiff, Nat.reduceLeDiff, Nat.reduceLT, Int.reduceToNat, Int.reduceLT, Int.reduceLE, Int.reduceEq, Int.reduceNeg, Int.reduceAdd, Int.reduceSub, Int.reduceMul, reduceIte]
  | some x =>
    rw [hr] at h
    obtain ⟨hw, h80, _⟩ := rdT_wf hr
    have hjl := joinS_len (listT x) (list_short x)
    have hL := l7List_ev x hw (by omega)
    have hT := fun ex => l7Text_ev ex (listT x) (by omega) (by omega)
    simp only [h, hr, adopt_encN2, give_sb2, Option.map_some, TMA, Int.toNat_natCast, Nat.mul_one, RR, IA, PA, RA0, RA1, RA2, RA3, RA4, RA5, RA6, RA7, RA8, RA9, RA10, Nat.reduceAdd, Nat.reduceMul, Nat.reduceEqDiff, Nat.reduceLeDiff, Nat.reduceLT, Int.reduceToNat, Int.reduceLT, Int.reduceLE, Int.reduceEq, Int.reduceNeg, Int.reduceAdd, Int.reduceSub, Int.reduceMul, reduceIte]
    cases hlf : leafT x with
    | true =>
      rw [resL_leaf hlf] at hL
      have ht := hT true
      simp only [hL, ht, strs_closed, give_sb2, TMA, Int.toNat_natCast, Nat.mul_one, RR, IA, PA, RA0, RA1, RA2, RA3, RA4, RA5, RA6, RA7, RA8, RA9, RA10, Nat.reduceAdd, Nat.reduceMul, Nat.reduceEqDiff, Nat.reduceLeDiff, Nat.reduceLT, Int.reduceToNat, Int.reduceLT, Int.reduceLE, Int.reduceEq, Int.reduceNeg, Int.reduceAdd, Int.reduceSub, Int.reduceMul, reduceIte]
    | false =>
      rw [resL_node hlf] at hL
      have ht := hT false
      simp only [hL, strs_closed, give_sb2, TMA, Int.toNat_natCast, Nat.mul_one, RR, IA, PA, RA0, RA1, RA2, RA3, RA4, RA5, RA6, RA7, RA8, RA9, RA10, Nat.reduceAdd, Nat.reduceMul, Nat.reduceEqDiff, Nat.reduceLeDiff, Nat.reduceLT, Int.reduceToNat, Int.reduceLT, Int.reduceLE, Int.reduceEq, Int.reduceNeg, Int.reduceAdd, Int.reduceSub, Int.reduceMul, reduceIte]
      rw [call0_w (r := .string ⟨(joinS (listT x)).toArray⟩) (by rfl) (by rfl) (by rw [strs_len, Nat.mul_one]) (strs_closed _) (by rfl) (by exact ht)]
      simp only [give_sb2, TMA, Int.toNat_natCast, Nat.mul_one, RR, IA, PA, RA0, RA1, RA2, RA3, RA4, RA5, RA6, RA7, RA8, RA9, RA10, Nat.reduceAdd, Nat.reduceMul, Nat.reduceEqDiff, Nat.reduceLeDiff, Nat.reduceLT, Int.reduceToNat, Int.reduceLT, Int.reduceLE, Int.reduceEq, Int.reduceNeg, Int.reduceAdd, Int.reduceSub, Int.reduceMul, reduceIte]
def cut7bL : List (List UInt8) := [[], [32], [97], [91, 120], [93], [43], [113]]
theorem cut7b (σ : Sto) : bsK σ 7 [(0, S []), (1, S [32]), (2, S [97]), (3, S [91, 120]), (4, S [93]), (5, S [43]), (6, S [113])] (some ⟨.str, 1, 16, [.string ⟨#[]⟩]⟩) = some (.s true 7 (strs cut7bL), σ) := rfl
theorem cut7b_len : ∀ s ∈ cut7bL, s.length ≤ 2 := by decide
set_option maxHeartbeats 16000000 in
theorem some7_ev (l : List UInt8) (hl : l.length ≤ 2000) (p : Nat) (hp : p + 2000 ≤ 1000000) : ∃ s p', EE 61 [srcL l p] = some (.t [S s, .t [srcL l p']]) ∧ s.length ≤ 600 ∧ p' ≤ p + 1000 := by
  have hrun : ∀ y, ((evC II EE (withOpt (opt 61) pf) MX (strip (bodyOf Tryd.f61)) ⟨fun t => (.r 0 0 :: []).getD t (.v undef), upd (fun _ => none) 0 (some (.ob 77 (srcC l p))), 1⟩).bind (outK II Tryd.f61.results.toList (.r 0 0 :: []))) = some y → EE 61 [srcL l p] = some y := fun y h => EE_lend T_some7 (by decide) (Nat.le_of_ble_eq_true rfl) (src_cl l p) rfl h
  rw [show opt 61 = [] from rfl] at hrun
  simp only [bodyOf, Tryd.f61, SA] at hrun
  obtain ⟨a, q, ha, al, hq⟩ := some_ev l hl p (by omega)
  simp only [TMA, Int.toNat_natCast, Nat.mul_one, RR, IA, PA, RA0, RA1, RA2, RA3, RA4, RA5, RA6, RA7, RA8, RA9, RA10, Nat.reduceAdd, Nat.reduceMul, Nat.reduceEqDiff, Nat.reduceLeDiff, Nat.reduceLT, Int.reduceToNat, Int.reduceLT, Int.reduceLE, Int.reduceEq, Int.reduceNeg, Int.reduceAdd, Int.reduceSub, Int.reduceMul, reduceIte] at hrun
  rw [some_call (by rfl) ha] at hrun
  have hc := specCodeOf_ev a (by omega)
  unfold codeV at hc
  cases hcode : codeT a with
  | none =>
    rw [hcode] at hc
    simp only [hc, adopt_sb2, TMA, Int.toNat_natCast, Nat.mul_one, RR, IA, PA, RA0, RA1, RA2, RA3, RA4, RA5, RA6, RA7, RA8, RA9, RA10, Nat.reduceAdd, Nat.reduceMul, Nat.reduceEqDiff, Nat.reduceLeDiff, Nat.reduceLT, Int.reduceToNat, Int.reduceLT, Int.reduceLE, Int.reduceEq, Int.reduceNeg, Int.reduceAdd, Int.reduceSub, Int.reduceMul, reduceIte] at hrun
    obtain ⟨s, hs⟩ : ∃ s : List UInt8, s = [97, 32, 83] := ⟨_, rfl⟩
    have hsl : s.length = 3 := by rw [hs]; rfl
    rw [← hs] at hrun
    obtain ⟨u, u0, u1, hu⟩ := pick_ev l hl q (by omega) 10 (by decide)
    try simp only [hc, TMA, Int.toNat_natCast, Nat.mul_one, RR, IA, PA, RA0, RA1, RA2, RA3, RA4, RA5, RA6, RA7, RA8, RA9, RA10, Nat.reduceAdd, Nat.reduceMul, Nat.reduceEqDiff, Nat.reduceLeDiff, Nat.reduceLT, Int.reduceToNat, Int.reduceLT, Int.reduceLE, Int.reduceEq, Int.reduceNeg, Int.reduceAdd, Int.reduceSub, Int.reduceMul, reduceIte] at hrun
    rw [pick_call (withOpt_nil_lo (by decide)) (by rfl) hu] at hrun
    by_cases hu0 : 0 < u
    · simp only [hu0, hc, TMA, Int.toNat_natCast, Nat.mul_one, RR, IA, PA, RA0, RA1, RA2, RA3, RA4, RA5, RA6, RA7, RA8, RA9, RA10, Nat.reduceAdd, Nat.reduceMul, Nat.reduceEqDiff, Nat.reduceLeDiff, Nat.reduceLT, Int.reduceToNat, Int.reduceLT, Int.reduceLE, Int.reduceEq, Int.reduceNeg, Int.reduceAdd, Int.reduceSub, Int.reduceMul, reduceIte] at hrun
      exact ⟨s, q + 1, hrun _ (out_one rfl rfl rfl (src_cl l (q + 1)) rfl), by omega, by omega⟩
    · obtain ⟨k, k0, k1, hk⟩ := pick_ev l hl (q + 1) (by omega) (List.length s : Int) (by omega)
      have hkl := k1 (by omega)
      obtain ⟨k, rfl⟩ : ∃ q : Nat, k = (q : Int) := ⟨k.toNat, by omega⟩
      simp only [hu0, hc, TMA, Int.toNat_natCast, Nat.mul_one, RR, IA, PA, RA0, RA1, RA2, RA3, RA4, RA5, RA6, RA7, RA8, RA9, RA10, Nat.reduceAdd, Nat.reduceMul, Nat.reduceEqDiff, Nat.reduceLeDiff, Nat.reduceLT, Int.reduceToNat, Int.reduceLT, Int.reduceLE, Int.reduceEq, Int.reduceNeg, Int.reduceAdd, Int.reduceSub, Int.reduceMul, reduceIte] at hrun
      rw [pick_call (withOpt_nil_lo (by decide)) (by rfl) hk] at hrun
      obtain ⟨x, hm, hx⟩ := of_ev l hl (q + 1 + 1) (by omega) true cut7bL (by decide) (by decide)
      have hxl := cut7b_len x hm
      have hkle : (k : Int) ≤ (List.length s : Int) := by omega
      simp only [cut7b, k0, hkle, hc, TMA, Int.toNat_natCast, Nat.mul_one, RR, IA, PA, RA0, RA1, RA2, RA3, RA4, RA5, RA6, RA7, RA8, RA9, RA10, Nat.reduceAdd, Nat.reduceMul, Nat.reduceEqDiff, Nat.reduceLeDiff, Nat.reduceLT, Int.reduceToNat, Int.reduceLT, Int.reduceLE, Int.reduceEq, Int.reduceNeg, Int.reduceAdd, Int.reduceSub, Int.reduceMul, reduceIte] at hrun
      rw [of_call (L := cut7bL) (n := 7) rfl (by rfl) hx] at hrun
      obtain ⟨w, w0, w1, hw⟩ := pick_ev l hl (q + 1 + 1 + 1) (by omega) 2 (by decide)
      have c1 := cat (List.take k s) x (by have := take_len s k; omega)
      simp only [c1, k0, hkle, hc, TMA, Int.toNat_natCast, Nat.mul_one, RR, IA, PA, RA0, RA1, RA2, RA3, RA4, RA5, RA6, RA7, RA8, RA9, RA10, Nat.reduceAdd, Nat.reduceMul, Nat.reduceEqDiff, Nat.reduceLeDiff, Nat.reduceLT, Int.reduceToNat, Int.reduceLT, Int.reduceLE, Int.reduceEq, Int.reduceNeg, Int.reduceAdd, Int.reduceSub, Int.reduceMul, reduceIte] at hrun
      rw [pick_call (withOpt_nil_lo (by decide)) (by rfl) hw] at hrun
      obtain ⟨w, rfl⟩ : ∃ q : Nat, w = (q : Int) := ⟨w.toNat, by omega⟩
      have hww : IntKind.i64.wrap ((k : Int) + (w : Int)) = ((k + w : Nat) : Int) := by rw [wrap64 (by omega) (by omega)]; omega
      have hz : (0 : Int) ≤ ((k + w : Nat) : Int) := by omega
      have hkw : ((k + w : Nat) : Int) ≤ (List.length s : Int) := by omega
      have c2 := cat (List.take k s ++ x) (List.drop (k + w) s) (by
        have := take_len s k
        have := drop_len s (k + w)
        simp only [List.length_append]
        omega)
      simp only [c1, c2, hww, hz, hkw, k0, hkle, hc, TMA, Int.toNat_natCast, Nat.mul_one, RR, IA, PA, RA0, RA1, RA2, RA3, RA4, RA5, RA6, RA7, RA8, RA9, RA10, Nat.reduceAdd, Nat.reduceMul, Nat.reduceEqDiff, Nat.reduceLeDiff, Nat.reduceLT, Int.reduceToNat, Int.reduceLT, Int.reduceLE, Int.reduceEq, Int.reduceNeg, Int.reduceAdd, Int.reduceSub, Int.reduceMul, reduceIte] at hrun
      exact ⟨_, q + 1 + 1 + 1 + 1, hrun _ (out_one rfl rfl rfl (src_cl l (q + 1 + 1 + 1 + 1)) rfl), by
        have := take_len s k
        have := drop_len s (k + w)
        simp only [List.length_append]
        omega, by omega⟩
  | some s =>
    rw [hcode] at hc
    have hs0 := code_pos hcode
    have hs1 := code_len hcode
    simp only [hc, adopt_sb2, TMA, Int.toNat_natCast, Nat.mul_one, RR, IA, PA, RA0, RA1, RA2, RA3, RA4, RA5, RA6, RA7, RA8, RA9, RA10, Nat.reduceAdd, Nat.reduceMul, Nat.reduceEqDiff, Nat.reduceLeDiff, Nat.reduceLT, Int.reduceToNat, Int.reduceLT, Int.reduceLE, Int.reduceEq, Int.reduceNeg, Int.reduceAdd, Int.reduceSub, Int.reduceMul, reduceIte] at hrun
    obtain ⟨u, u0, u1, hu⟩ := pick_ev l hl q (by omega) 10 (by decide)
    try simp only [hc, TMA, Int.toNat_natCast, Nat.mul_one, RR, IA, PA, RA0, RA1, RA2, RA3, RA4, RA5, RA6, RA7, RA8, RA9, RA10, Nat.reduceAdd, Nat.reduceMul, Nat.reduceEqDiff, Nat.reduceLeDiff, Nat.reduceLT, Int.reduceToNat, Int.reduceLT, Int.reduceLE, Int.reduceEq, Int.reduceNeg, Int.reduceAdd, Int.reduceSub, Int.reduceMul, reduceIte] at hrun
    rw [pick_call (withOpt_nil_lo (by decide)) (by rfl) hu] at hrun
    by_cases hu0 : 0 < u
    · simp only [hu0, hc, TMA, Int.toNat_natCast, Nat.mul_one, RR, IA, PA, RA0, RA1, RA2, RA3, RA4, RA5, RA6, RA7, RA8, RA9, RA10, Nat.reduceAdd, Nat.reduceMul, Nat.reduceEqDiff, Nat.reduceLeDiff, Nat.reduceLT, Int.reduceToNat, Int.reduceLT, Int.reduceLE, Int.reduceEq, Int.reduceNeg, Int.reduceAdd, Int.reduceSub, Int.reduceMul, reduceIte] at hrun
      exact ⟨s, q + 1, hrun _ (out_one rfl rfl rfl (src_cl l (q + 1)) rfl), by omega, by omega⟩
    · obtain ⟨k, k0, k1, hk⟩ := pick_ev l hl (q + 1) (by omega) (List.length s : Int) (by omega)
      have hkl := k1 (by omega)
      obtain ⟨k, rfl⟩ : ∃ q : Nat, k = (q : Int) := ⟨k.toNat, by omega⟩
      simp only [hu0, hc, TMA, Int.toNat_natCast, Nat.mul_one, RR, IA, PA, RA0, RA1, RA2, RA3, RA4, RA5, RA6, RA7, RA8, RA9, RA10, Nat.reduceAdd, Nat.reduceMul, Nat.reduceEqDiff, Nat.reduceLeDiff, Nat.reduceLT, Int.reduceToNat, Int.reduceLT, Int.reduceLE, Int.reduceEq, Int.reduceNeg, Int.reduceAdd, Int.reduceSub, Int.reduceMul, reduceIte] at hrun
      rw [pick_call (withOpt_nil_lo (by decide)) (by rfl) hk] at hrun
      obtain ⟨x, hm, hx⟩ := of_ev l hl (q + 1 + 1) (by omega) true cut7bL (by decide) (by decide)
      have hxl := cut7b_len x hm
      have hkle : (k : Int) ≤ (List.length s : Int) := by omega
      simp only [cut7b, k0, hkle, hc, TMA, Int.toNat_natCast, Nat.mul_one, RR, IA, PA, RA0, RA1, RA2, RA3, RA4, RA5, RA6, RA7, RA8, RA9, RA10, Nat.reduceAdd, Nat.reduceMul, Nat.reduceEqDiff, Nat.reduceLeDiff, Nat.reduceLT, Int.reduceToNat, Int.reduceLT, Int.reduceLE, Int.reduceEq, Int.reduceNeg, Int.reduceAdd, Int.reduceSub, Int.reduceMul, reduceIte] at hrun
      rw [of_call (L := cut7bL) (n := 7) rfl (by rfl) hx] at hrun
      obtain ⟨w, w0, w1, hw⟩ := pick_ev l hl (q + 1 + 1 + 1) (by omega) 2 (by decide)
      have c1 := cat (List.take k s) x (by have := take_len s k; omega)
      simp only [c1, k0, hkle, hc, TMA, Int.toNat_natCast, Nat.mul_one, RR, IA, PA, RA0, RA1, RA2, RA3, RA4, RA5, RA6, RA7, RA8, RA9, RA10, Nat.reduceAdd, Nat.reduceMul, Nat.reduceEqDiff, Nat.reduceLeDiff, Nat.reduceLT, Int.reduceToNat, Int.reduceLT, Int.reduceLE, Int.reduceEq, Int.reduceNeg, Int.reduceAdd, Int.reduceSub, Int.reduceMul, reduceIte] at hrun
      rw [pick_call (withOpt_nil_lo (by decide)) (by rfl) hw] at hrun
      obtain ⟨w, rfl⟩ : ∃ q : Nat, w = (q : Int) := ⟨w.toNat, by omega⟩
      have hww : IntKind.i64.wrap ((k : Int) + (w : Int)) = ((k + w : Nat) : Int) := by rw [wrap64 (by omega) (by omega)]; omega
      have hz : (0 : Int) ≤ ((k + w : Nat) : Int) := by omega
      have hkw : ((k + w : Nat) : Int) ≤ (List.length s : Int) := by omega
      have c2 := cat (List.take k s ++ x) (List.drop (k + w) s) (by
        have := take_len s k
        have := drop_len s (k + w)
        simp only [List.length_append]
        omega)
      simp only [c1, c2, hww, hz, hkw, k0, hkle, hc, TMA, Int.toNat_natCast, Nat.mul_one, RR, IA, PA, RA0, RA1, RA2, RA3, RA4, RA5, RA6, RA7, RA8, RA9, RA10, Nat.reduceAdd, Nat.reduceMul, Nat.reduceEqDiff, Nat.reduceLeDiff, Nat.reduceLT, Int.reduceToNat, Int.reduceLT, Int.reduceLE, Int.reduceEq, Int.reduceNeg, Int.reduceAdd, Int.reduceSub, Int.reduceMul, reduceIte] at hrun
      exact ⟨_, q + 1 + 1 + 1 + 1, hrun _ (out_one rfl rfl rfl (src_cl l (q + 1 + 1 + 1 + 1)) rfl), by
        have := take_len s k
        have := drop_len s (k + w)
        simp only [List.length_append]
        omega, by omega⟩
theorem some7_call {σ : Sto} {l : List UInt8} {p p' id : Nat} {s : List UInt8} (hσ : σ id = some (.ob 77 (srcC l p))) (h : EE 61 [srcL l p] = some (.t [S s, .t [srcL l p']])) (key : Nat) :
    callOp EE (withOpt [] pf) σ key 61 [.r id 0] = some (S s, upd σ id (some (.ob 77 (srcC l p')))) :=
  call_ob_v (withOpt_nil_lo (by decide)) hσ (src_cl l p) rfl h (src_cl l p') rfl (show 1 ≤ 4 by decide)
theorem T_drawTerm : TT 25 = some (Tryd.f25, bodyOf Tryd.f25) := by kernel_rfl
theorem drawTerm_ev (l : List UInt8) : ∃ s, EE 25 [bytesV l] = some (S s) ∧ s.length ≤ 600 := by
  have hrun : ∀ y, (evC II EE (withOpt (opt 25) pf) MX (strip (bodyOf Tryd.f25)) (St.init [bytesV l])).bind (resK II Tryd.f25.results.toList) = some y → EE 25 [bytesV l] = some y := fun y h => EE_plain T_drawTerm (by decide) (Nat.le_of_ble_eq_true rfl) (bytes_cl l) h
  rw [show opt 25 = [] from rfl] at hrun
  simp only [bodyOf, Tryd.f25, SA] at hrun
  obtain ⟨s, q, hs, sl, hq⟩ := some7_ev (l.take 2000) (take2000 l) 0 (by decide)
  simp only [TMA, Int.toNat_natCast, Nat.mul_one, RR, IA, PA, RA0, RA1, RA2, RA3, RA4, RA5, RA6, RA7, RA8, RA9, RA10, Nat.reduceAdd, Nat.reduceMul, Nat.reduceEqDiff, Nat.reduceLeDiff, Nat.reduceLT, Int.reduceToNat, Int.reduceLT, Int.reduceLE, Int.reduceEq, Int.reduceNeg, Int.reduceAdd, Int.reduceSub, Int.reduceMul, reduceIte] at hrun
  rw [call_new_v (withOpt_nil_lo (by decide)) (bytes_cl l) (open_ev l) (src_cl _ _)] at hrun
  simp only [TMA, Int.toNat_natCast, Nat.mul_one, RR, IA, PA, RA0, RA1, RA2, RA3, RA4, RA5, RA6, RA7, RA8, RA9, RA10, Nat.reduceAdd, Nat.reduceMul, Nat.reduceEqDiff, Nat.reduceLeDiff, Nat.reduceLT, Int.reduceToNat, Int.reduceLT, Int.reduceLE, Int.reduceEq, Int.reduceNeg, Int.reduceAdd, Int.reduceSub, Int.reduceMul, reduceIte] at hrun
  rw [some7_call (by simp only [upd, if_true]) hs] at hrun
  simp only [TMA, Int.toNat_natCast, Nat.mul_one, RR, IA, PA, RA0, RA1, RA2, RA3, RA4, RA5, RA6, RA7, RA8, RA9, RA10, Nat.reduceAdd, Nat.reduceMul, Nat.reduceEqDiff, Nat.reduceLeDiff, Nat.reduceLT, Int.reduceToNat, Int.reduceLT, Int.reduceLE, Int.reduceEq, Int.reduceNeg, Int.reduceAdd, Int.reduceSub, Int.reduceMul, reduceIte] at hrun
  exact ⟨s, hrun _ rfl, sl⟩
theorem T_drawHeights : TT 18 = some (Tryd.f18, bodyOf Tryd.f18) := by kernel_rfl
theorem drawHeights_ev (l : List UInt8) : ∃ s, EE 18 [bytesV l] = some (S s) ∧ s.length ≤ 600 := by
  have hrun : ∀ y, (evC II EE (withOpt (opt 18) pf) MX (strip (bodyOf Tryd.f18)) (St.init [bytesV l])).bind (resK II Tryd.f18.results.toList) = some y → EE 18 [bytesV l] = some y := fun y h => EE_plain T_drawHeights (by decide) (Nat.le_of_ble_eq_true rfl) (bytes_cl l) h
  rw [show opt 18 = [] from rfl] at hrun
  simp only [bodyOf, Tryd.f18, SA] at hrun
  obtain ⟨s, q, hs, sl, hq⟩ := some7_ev (l.take 2000) (take2000 l) 0 (by decide)
  simp only [TMA, Int.toNat_natCast, Nat.mul_one, RR, IA, PA, RA0, RA1, RA2, RA3, RA4, RA5, RA6, RA7, RA8, RA9, RA10, Nat.reduceAdd, Nat.reduceMul, Nat.reduceEqDiff, Nat.reduceLeDiff, Nat.reduceLT, Int.reduceToNat, Int.reduceLT, Int.reduceLE, Int.reduceEq, Int.reduceNeg, Int.reduceAdd, Int.reduceSub, Int.reduceMul, reduceIte] at hrun
  rw [call_new_v (withOpt_nil_lo (by decide)) (bytes_cl l) (open_ev l) (src_cl _ _)] at hrun
  simp only [TMA, Int.toNat_natCast, Nat.mul_one, RR, IA, PA, RA0, RA1, RA2, RA3, RA4, RA5, RA6, RA7, RA8, RA9, RA10, Nat.reduceAdd, Nat.reduceMul, Nat.reduceEqDiff, Nat.reduceLeDiff, Nat.reduceLT, Int.reduceToNat, Int.reduceLT, Int.reduceLE, Int.reduceEq, Int.reduceNeg, Int.reduceAdd, Int.reduceSub, Int.reduceMul, reduceIte] at hrun
  rw [some7_call (by simp only [upd, if_true]) hs] at hrun
  simp only [TMA, Int.toNat_natCast, Nat.mul_one, RR, IA, PA, RA0, RA1, RA2, RA3, RA4, RA5, RA6, RA7, RA8, RA9, RA10, Nat.reduceAdd, Nat.reduceMul, Nat.reduceEqDiff, Nat.reduceLeDiff, Nat.reduceLT, Int.reduceToNat, Int.reduceLT, Int.reduceLE, Int.reduceEq, Int.reduceNeg, Int.reduceAdd, Int.reduceSub, Int.reduceMul, reduceIte] at hrun
  exact ⟨s, hrun _ rfl, sl⟩
theorem T_drawCode : TT 8 = some (Tryd.f8, bodyOf Tryd.f8) := by kernel_rfl
theorem drawCode_ev (l : List UInt8) : ∃ s, EE 8 [bytesV l] = some (S s) ∧ s.length ≤ 200 := by
  have hrun : ∀ y, (evC II EE (withOpt (opt 8) pf) MX (strip (bodyOf Tryd.f8)) (St.init [bytesV l])).bind (resK II Tryd.f8.results.toList) = some y → EE 8 [bytesV l] = some y := fun y h => EE_plain T_drawCode (by decide) (Nat.le_of_ble_eq_true rfl) (bytes_cl l) h
  rw [show opt 8 = [] from rfl] at hrun
  simp only [bodyOf, Tryd.f8, SA] at hrun
  obtain ⟨s, q, hs, sl, hq⟩ := some_ev (l.take 2000) (take2000 l) 0 (by decide)
  simp only [TMA, Int.toNat_natCast, Nat.mul_one, RR, IA, PA, RA0, RA1, RA2, RA3, RA4, RA5, RA6, RA7, RA8, RA9, RA10, Nat.reduceAdd, Nat.reduceMul, Nat.reduceEqDiff, Nat.reduceLeDiff, Nat.reduceLT, Int.reduceToNat, Int.reduceLT, Int.reduceLE, Int.reduceEq, Int.reduceNeg, Int.reduceAdd, Int.reduceSub, Int.reduceMul, reduceIte] at hrun
  rw [call_new_v (withOpt_nil_lo (by decide)) (bytes_cl l) (open_ev l) (src_cl _ _)] at hrun
  simp only [TMA, Int.toNat_natCast, Nat.mul_one, RR, IA, PA, RA0, RA1, RA2, RA3, RA4, RA5, RA6, RA7, RA8, RA9, RA10, Nat.reduceAdd, Nat.reduceMul, Nat.reduceEqDiff, Nat.reduceLeDiff, Nat.reduceLT, Int.reduceToNat, Int.reduceLT, Int.reduceLE, Int.reduceEq, Int.reduceNeg, Int.reduceAdd, Int.reduceSub, Int.reduceMul, reduceIte] at hrun
  rw [some_call (by simp only [upd, if_true]) hs] at hrun
  simp only [TMA, Int.toNat_natCast, Nat.mul_one, RR, IA, PA, RA0, RA1, RA2, RA3, RA4, RA5, RA6, RA7, RA8, RA9, RA10, Nat.reduceAdd, Nat.reduceMul, Nat.reduceEqDiff, Nat.reduceLeDiff, Nat.reduceLT, Int.reduceToNat, Int.reduceLT, Int.reduceLE, Int.reduceEq, Int.reduceNeg, Int.reduceAdd, Int.reduceSub, Int.reduceMul, reduceIte] at hrun
  exact ⟨s, hrun _ rfl, sl⟩
end
end Go.Proofs.YtegbkihgnofkfaaDoor.Ev

/-
Drawn laws: a code's term.
-/
namespace Go.Proofs.YtegbkihgnofkfaaDoor.Ev
section
set_option linter.unusedVariables false
set_option linter.unusedSimpArgs false
open Go Go.RowKit
set_option linter.unusedVariables false
set_option linter.unusedSimpArgs false
theorem T_faTexts : TT 29 = some (Tryd.f29, bodyOf Tryd.f29) := by kernel_rfl
theorem faTexts_loop (x y : Bool) (L : List (List UInt8)) (hL : L.length ≤ 1000000) : ∀ (r : List (List UInt8)) (i n : Nat) (e : Nat → AV) (σ : Sto) (nx : Nat) (q : Option (Ex × St)),
    L.drop i = r → r.length < n → roundsE (evC II EE (withOpt [] pf) MX (bodyL Tryd.f29 0)) n ⟨e, σ, nx⟩ = q → e 0 = .s x L.length (strs L) → e 1 = .s y L.length (strs L) → e 10 = N L.length → e 11 = N i →
    ∃ e' σ' nx', q = some (.exit 0, ⟨e', σ', nx'⟩) ∧ e' 0 = .s x L.length (strs L) ∧ e' 1 = .s y L.length (strs L)
  | [], i, n, e, σ, nx, q, hr, hn, hq, h0, h1, h10, h11 => by
    obtain ⟨n, rfl⟩ : ∃ k, n = k + 1 := ⟨n - 1, by simp only [List.length_nil] at hn; omega⟩
    rw [rounds_rd] at hq
    have hge : L.length ≤ i := by
      have := congrArg List.length hr
      simp only [List.length_drop, List.length_nil] at this
      omega
    have hc : ¬ ((i : Int) < (L.length : Int)) := by omega
    simp only [bodyL, bodyOf, Tryd.f29, SA, loops, List.nil_append, List.append_nil, List.cons_append, List.getD_cons_zero, List.getD_cons_succ] at hq
    simp only [h10, h11, hc, RR, IA, PA, RA0, RA1, RA2, RA3, RA4, RA5, RA6, RA7, RA8, RA9, RA10, Nat.reduceAdd, Nat.reduceMul, Nat.reduceEqDiff, Nat.reduceLeDiff, Nat.reduceLT, Int.reduceToNat, Int.reduceLT, Int.reduceLE, Int.reduceEq, Int.reduceNeg, Int.reduceAdd, Int.reduceSub, Int.reduceMul, reduceIte] at hq
    exact ⟨_, _, _, hq.symm, h0, h1⟩
  | z :: r, i, n, e, σ, nx, q, hr, hn, hq, h0, h1, h10, h11 => by
    obtain ⟨n, rfl⟩ : ∃ k, n = k + 1 := ⟨n - 1, by simp only [List.length_cons] at hn; omega⟩
    rw [rounds_rd] at hq
    have hlt : i < L.length := by
      have := congrArg List.length hr
      simp only [List.length_drop, List.length_cons] at this
      omega
    have hc : ((i : Int) < (L.length : Int)) := by omega
    have hz : (0 : Int) ≤ (i : Int) := by omega
    have hw : IntKind.i64.wrap ((i : Int) + 1) = ((i + 1 : Nat) : Int) := by rw [wrap64 (by omega) (by omega)]; rfl
    have hd : ((strs L).drop i).head? = some (S z) := by
      rw [strs_drop, hr]
      rfl
    have hl : (strs L).length = L.length := strs_len L
    have hzz : (z == z) = true := by simp
    simp only [bodyL, bodyOf, Tryd.f29, SA, loops, List.nil_append, List.append_nil, List.cons_append, List.getD_cons_zero, List.getD_cons_succ] at hq
    simp only [h0, h1, h10, h11, hc, hz, hw, hd, hl, hzz, Int.toNat_natCast, Nat.mul_one, RR, IA, PA, RA0, RA1, RA2, RA3, RA4, RA5, RA6, RA7, RA8, RA9, RA10, Nat.reduceAdd, Nat.reduceMul, Nat.reduceEqDiff, Nat.reduceLeDiff, Nat.reduceLT, Int.reduceToNat, Int.reduceLT, Int.reduceLE, Int.reduceEq, Int.reduceNeg, Int.reduceAdd, Int.reduceSub, Int.reduceMul, reduceIte] at hq
    have hr2 : L.drop (i + 1) = r := by
      rw [← List.drop_drop, hr]
      rfl
    exact faTexts_loop x y L hL r (i + 1) n _ _ _ q hr2 (by simp only [List.length_cons] at hn; omega) hq h0 h1 h10 rfl
theorem faTexts_ev (x y : Bool) (L : List (List UInt8)) (hL : L.length ≤ 1000000) : EE 29 [.s x L.length (strs L), .s y L.length (strs L)] = some (B true) := by
  refine EE_plain T_faTexts (by decide) (Nat.le_of_ble_eq_true rfl) (by simp only [closedL, closed, strs_closed, Bool.and_self]) ?_
  rw [show opt 29 = [] from rfl]
  simp only [bodyOf, Tryd.f29, SA]
  have hmin : mx2 false (N L.length) (N L.length) = some (N L.length) := by simp [mx2]
  simp only [hmin, RR, IA, PA, RA0, RA1, RA2, RA3, RA4, RA5, RA6, RA7, RA8, RA9, RA10, Nat.reduceAdd, Nat.reduceMul, Nat.reduceEqDiff, Nat.reduceLeDiff, Nat.reduceLT, Int.reduceToNat, Int.reduceLT, Int.reduceLE, Int.reduceEq, Int.reduceNeg, Int.reduceAdd, Int.reduceSub, Int.reduceMul, reduceIte]
  generalize hq : roundsE _ _ _ = q
  obtain ⟨e', σ', nx', rfl, h0, h1⟩ := faTexts_loop x y L hL L 0 MX _ _ _ q rfl (by
    have : (1000000 : Nat) < MX := by decide
    omega) hq rfl rfl rfl rfl
  have hee : decide ((L.length : Int) = (L.length : Int)) = true := by simp
  simp only [h0, h1, hee, RR, IA, PA, RA0, RA1, RA2, RA3, RA4, RA5, RA6, RA7, RA8, RA9, RA10, Nat.reduceAdd, Nat.reduceMul, Nat.reduceEqDiff, Nat.reduceLeDiff, Nat.reduceLT, Int.reduceToNat, Int.reduceLT, Int.reduceLE, Int.reduceEq, Int.reduceNeg, Int.reduceAdd, Int.reduceSub, Int.reduceMul, reduceIte]
theorem T_lawFnTerm : TT 5 = some (Tryd.f5, bodyOf Tryd.f5) := by kernel_rfl
theorem code_back {code : List UInt8} {t : T} {hs ls : List Nat} (h : specB code = some (t, hs, ls)) : codeT (textT t) = some code := by
  obtain ⟨_, _, h1, _, h2⟩ := spec_impl h
  unfold codeT
  rw [h2, Option.map_some, ← h1, join_cut]
set_option maxHeartbeats 8000000 in
theorem fnTerm_law (l : List UInt8) : EE 5 [bytesV l] = some (B true) := by
  refine EE_plain T_lawFnTerm (by decide) (Nat.le_of_ble_eq_true rfl) (bytes_cl l) ?_
  rw [show opt 5 = [] from rfl]
  simp only [bodyOf, Tryd.f5, SA]
  by_cases hbig : (1048576 : Int) < (l.length : Int)
  · simp only [bytesV_eq, hbig, RR, IA, PA, RA0, RA1, RA2, RA3, RA4, RA5, RA6, RA7, RA8, RA9, RA10, Nat.reduceAdd, Nat.reduceMul, Nat.reduceEqDiff, Nat.reduceLeDiff, Nat.reduceLT, Int.reduceToNat, Int.reduceLT, Int.reduceLE, Int.reduceEq, Int.reduceNeg, Int.reduceAdd, Int.reduceSub, Int.reduceMul, reduceIte]
  · obtain ⟨t, ht, hl⟩ := drawTerm_ev l
    rw [bytesV_eq] at ht
    have hcb := cbs_closed l
    have h := implTermOf_ev t (by omega)
    rw [impl_eq] at h
    have k := specTermOf_ev t (by omega)
    have cv := implCodeValid_ev t (by omega)
    have sv := specCodeValid_ev t (by omega)
    have hd := implDepthOfCode_ev t (by omega)
    have kd := specDepthOfCode_ev t (by omega)
    have hi := implInstructionsOf_ev t (by omega)
    have ki := specInstructionsOf_ev t (by omega)
    cases hs : specB t with
    | none =>
      rw [hs] at h k cv sv hi ki
      have e : depC t = -1 := by unfold depC; rw [hs]
      rw [e] at hd kd
      simp only [Option.map_none, Option.isSome_none] at h k cv sv hi ki
      rw [if_neg (by decide)] at hi ki
      have hf : EE 29 [.s true 0 [], .s true 0 []] = some (B true) := faTexts_ev true true [] (by decide)
      simp only [bytesV_eq, hbig, hcb, ht, h, k, cv, sv, hd, kd, hi, ki, hf, adopt_sb2, RR, IA, PA, RA0, RA1, RA2, RA3, RA4, RA5, RA6, RA7, RA8, RA9, RA10, Nat.reduceAdd, Nat.reduceMul, Nat.reduceEqDiff, Nat.reduceLeDiff, Nat.reduceLT, Int.reduceToNat, Int.reduceLT, Int.reduceLE, Int.reduceEq, Int.reduceNeg, Int.reduceAdd, Int.reduceSub, Int.reduceMul, reduceIte]
    | some w =>
      obtain ⟨x, hs0, ls0⟩ := w
      rw [hs] at h k cv sv hi ki
      simp only [Option.map_some, Option.isSome_some, if_true] at h k cv sv hi ki
      have hb := code_back hs
      obtain ⟨_, hw, hcut, _, hrd⟩ := spec_impl hs
      have hx := rdT_wf hrd
      have hco := implCodeOf_ev (textT x) (by omega)
      rw [hb] at hco
      simp only at hco
      have hcl := cutL_len 32 t
      have hf := faTexts_ev false false (cutL 32 t) (by omega)
      have hlen : (strs (cutL 32 t)).length = (cutL 32 t).length * 1 := by rw [strs_len, Nat.mul_one]
      have hdd : decide (depC t = depC t) = true := by simp
      simp only [bytesV_eq, hbig, hcb, ht, h, k, cv, sv, hd, kd, hi, ki, hco, hdd, strs_closed, adopt_sb2, RR, IA, PA, RA0, RA1, RA2, RA3, RA4, RA5, RA6, RA7, RA8, RA9, RA10, Nat.reduceAdd, Nat.reduceMul, Nat.reduceEqDiff, Nat.reduceLeDiff, Nat.reduceLT, Int.reduceToNat, Int.reduceLT, Int.reduceLE, Int.reduceEq, Int.reduceNeg, Int.reduceAdd, Int.reduceSub, Int.reduceMul, reduceIte]
      rw [call0_ww (E := 9) (sz := 1) (E' := 9) (sz' := 1) (cs := strs (cutL 32 t)) (ds := strs (cutL 32 t)) (by rfl) (by rfl) (by rfl) hlen hlen (strs_closed _) (strs_closed _) rfl hf]
      have htt : (t == t) = true := by simp
      simp only [ht, h, hco, htt, adopt_sb2, RR, IA, PA, RA0, RA1, RA2, RA3, RA4, RA5, RA6, RA7, RA8, RA9, RA10, Nat.reduceAdd, Nat.reduceMul, Nat.reduceEqDiff, Nat.reduceLeDiff, Nat.reduceLT, Int.reduceToNat, Int.reduceLT, Int.reduceLE, Int.reduceEq, Int.reduceNeg, Int.reduceAdd, Int.reduceSub, Int.reduceMul, reduceIte]
end
end Go.Proofs.YtegbkihgnofkfaaDoor.Ev
