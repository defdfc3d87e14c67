/-
Texts Ea to Ea of the work.
-/
import Derived.Test.YtegbkihgnofkfaaGreatDoorZDh
import Derived.Test.YtegbkihgnofkfaaGreatDoorZVl
/-
Draws: texts that are mostly codes (written by wip/tools/gen_ea.py).
-/
namespace Go.Proofs.YtegbkihgnofkfaaGreatDoor.Ev
section
set_option linter.unusedVariables false
set_option linter.unusedSimpArgs false
open Go Go.RowKit
set_option linter.unusedVariables false
set_option linter.unusedSimpArgs false
theorem T_specCodeOf : TT 24 = some (Tryz.f24, bodyOf Tryz.f24) := by kernel_rfl
theorem T_some7 : TT 10 = some (Tryz.f10, bodyOf Tryz.f10) := by kernel_rfl
theorem code_len {t c : List UInt8} (h : codeT t = some c) : c.length ≤ 240 := by
  unfold codeT at h
  obtain ⟨x, hx, rfl⟩ := Option.map_eq_some_iff.1 h
  have h1 := joinS_len (listT x) (list_short x)
  have h2 := (rdT_wf hx).2.1
  omega
theorem list_pos : ∀ t, ∀ y ∈ listT t, 0 < y.length := by
  intro t
  induction t with
  | dig c => intro y hy; simp only [listT, List.mem_singleton] at hy; subst hy; simp
  | var c => intro y hy; simp only [listT, List.mem_singleton] at hy; subst hy; simp
  | one s x ih =>
    intro y hy
    simp only [listT, List.mem_append, List.mem_singleton] at hy
    rcases hy with hy | rfl
    · exact ih y hy
    · simp
  | two s x y ihx ihy =>
    intro z hz
    simp only [listT, List.mem_append, List.mem_singleton] at hz
    rcases hz with (hz | hz) | rfl
    · exact ihx z hz
    · exact ihy z hz
    · simp
  | loop s v x y ihx ihy =>
    intro z hz
    simp only [listT, List.mem_append, List.mem_singleton] at hz
    rcases hz with ((hz | rfl) | hz) | rfl
    · exact ihx z hz
    · simp
    · exact ihy z hz
    · simp
theorem code_pos {t c : List UInt8} (h : codeT t = some c) : 0 < c.length := by
  unfold codeT at h
  obtain ⟨x, hx, rfl⟩ := Option.map_eq_some_iff.1 h
  have hw := (rdT_wf hx).1
  have h1 := cut_list hw
  rcases Nat.eq_zero_or_pos (joinS (listT x)).length with h0 | h0
  · exfalso
    rw [List.length_eq_zero_iff.1 h0] at h1
    have h2 : cutL 32 [] = [[]] := rfl
    rw [h2] at h1
    have h3 := list_pos x [] (by rw [← h1]; exact List.mem_singleton.2 rfl)
    simp at h3
  · exact h0
def codeV (t : List UInt8) : AV := match codeT t with
  | some c => .t [S c, B true]
  | none => .t [S [], B false]
theorem adopt_encN2 (σ : Sto) (key : Nat) (x : T) (b : Bool) : adopt σ key (.t [.a (encN x), B b]) = some (.t [.a (encN x), B b], σ) := adopt_two (by simp only [closed, encN_closed]) rfl
theorem adopt_zc2 (σ : Sto) (key : Nat) (b : Bool) : adopt σ key (.t [.a zc, B b]) = some (.t [.a zc, B b], σ) := adopt_two rfl rfl
theorem adopt_sb2 (σ : Sto) (key : Nat) (l : List UInt8) (b : Bool) : adopt σ key (.t [S l, B b]) = some (.t [S l, B b], σ) := adopt_two rfl rfl
theorem give_sb2 {σ : Sto} (l : List UInt8) (b : Bool) : giveAll σ [S l, B b] = some (.t [S l, B b]) := give_two rfl rfl
set_option maxHeartbeats 4000000 in
theorem specCodeOf_ev (t : List UInt8) (hl : t.length < 1000000000) : EE 24 [S t] = some (codeV t) := by
  have h := l5Read_ev t (by omega)
  refine EE_plain T_specCodeOf (by decide) (Nat.le_of_ble_eq_true rfl) rfl ?_
  rw [show opt 24 = [] from rfl]
  simp only [bodyOf, Tryz.f24, SA]
  unfold codeV codeT
  cases hr : rdT t with
  | none =>
    rw [hr] at h
    have zl : zc.length = 3 := rfl
    have zf : zc.all leafOk = true := rfl
    simp only [h, hr, zl, zf, adopt_zc2, give_sb2, Option.map_none, TMA, Int.toNat_natCast, Nat.mul_one, RR, IA, PA, RA0, RA1, RA2, RA3, RA4, RA5, RA6, RA7, RA8, RA9, RA10, Nat.reduceAdd, Nat.reduceMul, Nat.reduceEqDiff, Nat.reduceLeDiff, Nat.reduceLT, Int.reduceToNat, Int.reduceLT, Int.reduceLE, Int.reduceEq, Int.reduceNeg, Int.reduceAdd, Int.reduceSub, Int.reduceMul, reduceIte]
  | some x =>
    rw [hr] at h
    obtain ⟨hw, h80, _⟩ := rdT_wf hr
    have hjl := joinS_len (listT x) (list_short x)
    have hL := l7List_ev x hw (by omega)
    have hT := fun ex => l7Text_ev ex (listT x) (by omega) (by omega)
    simp only [h, hr, adopt_encN2, give_sb2, Option.map_some, TMA, Int.toNat_natCast, Nat.mul_one, RR, IA, PA, RA0, RA1, RA2, RA3, RA4, RA5, RA6, RA7, RA8, RA9, RA10, Nat.reduceAdd, Nat.reduceMul, Nat.reduceEqDiff, Nat.reduceLeDiff, Nat.reduceLT, Int.reduceToNat, Int.reduceLT, Int.reduceLE, Int.reduceEq, Int.reduceNeg, Int.reduceAdd, Int.reduceSub, Int.reduceMul, reduceIte]
    cases hlf : leafT x with
    | true =>
      rw [resL_leaf hlf] at hL
      have ht := hT true
      simp only [hL, ht, strs_closed, give_sb2, TMA, Int.toNat_natCast, Nat.mul_one, RR, IA, PA, RA0, RA1, RA2, RA3, RA4, RA5, RA6, RA7, RA8, RA9, RA10, Nat.reduceAdd, Nat.reduceMul, Nat.reduceEqDiff, Nat.reduceLeDiff, Nat.reduceLT, Int.reduceToNat, Int.reduceLT, Int.reduceLE, Int.reduceEq, Int.reduceNeg, Int.reduceAdd, Int.reduceSub, Int.reduceMul, reduceIte]
    | false =>
      rw [resL_node hlf] at hL
      have ht := hT false
      simp only [hL, strs_closed, give_sb2, TMA, Int.toNat_natCast, Nat.mul_one, RR, IA, PA, RA0, RA1, RA2, RA3, RA4, RA5, RA6, RA7, RA8, RA9, RA10, Nat.reduceAdd, Nat.reduceMul, Nat.reduceEqDiff, Nat.reduceLeDiff, Nat.reduceLT, Int.reduceToNat, Int.reduceLT, Int.reduceLE, Int.reduceEq, Int.reduceNeg, Int.reduceAdd, Int.reduceSub, Int.reduceMul, reduceIte]
      rw [call0_w (r := .string ⟨(joinS (listT x)).toArray⟩) (by rfl) (by rfl) (by rw [strs_len, Nat.mul_one]) (strs_closed _) (by rfl) (by exact ht)]
      simp only [give_sb2, TMA, Int.toNat_natCast, Nat.mul_one, RR, IA, PA, RA0, RA1, RA2, RA3, RA4, RA5, RA6, RA7, RA8, RA9, RA10, Nat.reduceAdd, Nat.reduceMul, Nat.reduceEqDiff, Nat.reduceLeDiff, Nat.reduceLT, Int.reduceToNat, Int.reduceLT, Int.reduceLE, Int.reduceEq, Int.reduceNeg, Int.reduceAdd, Int.reduceSub, Int.reduceMul, reduceIte]
def cut7bL : List (List UInt8) := [[], [32], [97], [91, 120], [93], [43], [113]]
theorem cut7b (σ : Sto) : bsK σ 7 [(0, S []), (1, S [32]), (2, S [97]), (3, S [91, 120]), (4, S [93]), (5, S [43]), (6, S [113])] (some ⟨.str, 1, 16, [.string ⟨#[]⟩]⟩) = some (.s true 7 (strs cut7bL), σ) := rfl
theorem cut7b_len : ∀ s ∈ cut7bL, s.length ≤ 2 := by decide
set_option maxHeartbeats 16000000 in
theorem some7_ev (l : List UInt8) (hl : l.length ≤ 2000) (p : Nat) (hp : p + 2000 ≤ 1000000) : ∃ s p', EE 10 [srcL l p] = some (.t [S s, .t [srcL l p']]) ∧ s.length ≤ 600 ∧ p' ≤ p + 1000 := by
  have hrun : ∀ y, ((evC II EE (withOpt (opt 10) pf) MX (strip (bodyOf Tryz.f10)) ⟨fun t => (.r 0 0 :: []).getD t (.v undef), upd (fun _ => none) 0 (some (.ob 48 (srcC l p))), 1⟩).bind (outK II Tryz.f10.results.toList (.r 0 0 :: []))) = some y → EE 10 [srcL l p] = some y := fun y h => EE_lend T_some7 (by decide) (Nat.le_of_ble_eq_true rfl) (src_cl l p) rfl h
  rw [show opt 10 = [] from rfl] at hrun
  simp only [bodyOf, Tryz.f10, SA] at hrun
  obtain ⟨a, q, ha, al, hq⟩ := some_ev l hl p (by omega)
  simp only [TMA, Int.toNat_natCast, Nat.mul_one, RR, IA, PA, RA0, RA1, RA2, RA3, RA4, RA5, RA6, RA7, RA8, RA9, RA10, Nat.reduceAdd, Nat.reduceMul, Nat.reduceEqDiff, Nat.reduceLeDiff, Nat.reduceLT, Int.reduceToNat, Int.reduceLT, Int.reduceLE, Int.reduceEq, Int.reduceNeg, Int.reduceAdd, Int.reduceSub, Int.reduceMul, reduceIte] at hrun
  rw [some_call (by rfl) ha] at hrun
  have hc := specCodeOf_ev a (by omega)
  unfold codeV at hc
  cases hcode : codeT a with
  | none =>
    rw [hcode] at hc
    simp only [hc, adopt_sb2, TMA, Int.toNat_natCast, Nat.mul_one, RR, IA, PA, RA0, RA1, RA2, RA3, RA4, RA5, RA6, RA7, RA8, RA9, RA10, Nat.reduceAdd, Nat.reduceMul, Nat.reduceEqDiff, Nat.reduceLeDiff, Nat.reduceLT, Int.reduceToNat, Int.reduceLT, Int.reduceLE, Int.reduceEq, Int.reduceNeg, Int.reduceAdd, Int.reduceSub, Int.reduceMul, reduceIte] at hrun
    obtain ⟨s, hs⟩ : ∃ s : List UInt8, s = [97, 32, 83] := ⟨_, rfl⟩
    have hsl : s.length = 3 := by rw [hs]; rfl
    rw [← hs] at hrun
    obtain ⟨u, u0, u1, hu⟩ := pick_ev l hl q (by omega) 10 (by decide)
    try simp only [hc, TMA, Int.toNat_natCast, Nat.mul_one, RR, IA, PA, RA0, RA1, RA2, RA3, RA4, RA5, RA6, RA7, RA8, RA9, RA10, Nat.reduceAdd, Nat.reduceMul, Nat.reduceEqDiff, Nat.reduceLeDiff, Nat.reduceLT, Int.reduceToNat, Int.reduceLT, Int.reduceLE, Int.reduceEq, Int.reduceNeg, Int.reduceAdd, Int.reduceSub, Int.reduceMul, reduceIte] at hrun
    rw [pick_call (withOpt_nil_lo (by decide)) (by rfl) hu] at hrun
    by_cases hu0 : 0 < u
    · simp only [hu0, hc, TMA, Int.toNat_natCast, Nat.mul_one, RR, IA, PA, RA0, RA1, RA2, RA3, RA4, RA5, RA6, RA7, RA8, RA9, RA10, Nat.reduceAdd, Nat.reduceMul, Nat.reduceEqDiff, Nat.reduceLeDiff, Nat.reduceLT, Int.reduceToNat, Int.reduceLT, Int.reduceLE, Int.reduceEq, Int.reduceNeg, Int.reduceAdd, Int.reduceSub, Int.reduceMul, reduceIte] at hrun
      exact ⟨s, q + 1, hrun _ (out_one rfl rfl rfl (src_cl l (q + 1)) rfl), by omega, by omega⟩
    · obtain ⟨k, k0, k1, hk⟩ := pick_ev l hl (q + 1) (by omega) (List.length s : Int) (by omega)
      have hkl := k1 (by omega)
      obtain ⟨k, rfl⟩ : ∃ q : Nat, k = (q : Int) := ⟨k.toNat, by omega⟩
      simp only [hu0, hc, TMA, Int.toNat_natCast, Nat.mul_one, RR, IA, PA, RA0, RA1, RA2, RA3, RA4, RA5, RA6, RA7, RA8, RA9, RA10, Nat.reduceAdd, Nat.reduceMul, Nat.reduceEqDiff, Nat.reduceLeDiff, Nat.reduceLT, Int.reduceToNat, Int.reduceLT, Int.reduceLE, Int.reduceEq, Int.reduceNeg, Int.reduceAdd, Int.reduceSub, Int.reduceMul, reduceIte] at hrun
      rw [pick_call (withOpt_nil_lo (by decide)) (by rfl) hk] at hrun
      obtain ⟨x, hm, hx⟩ := of_ev l hl (q + 1 + 1) (by omega) true cut7bL (by decide) (by decide)
      have hxl := cut7b_len x hm
      have hkle : (k : Int) ≤ (List.length s : Int) := by omega
      simp only [cut7b, k0, hkle, hc, TMA, Int.toNat_natCast, Nat.mul_one, RR, IA, PA, RA0, RA1, RA2, RA3, RA4, RA5, RA6, RA7, RA8, RA9, RA10, Nat.reduceAdd, Nat.reduceMul, Nat.reduceEqDiff, Nat.reduceLeDiff, Nat.reduceLT, Int.reduceToNat, Int.reduceLT, Int.reduceLE, Int.reduceEq, Int.reduceNeg, Int.reduceAdd, Int.reduceSub, Int.reduceMul, reduceIte] at hrun
      rw [of_call (L := cut7bL) (n := 7) rfl (by rfl) hx] at hrun
      obtain ⟨w, w0, w1, hw⟩ := pick_ev l hl (q + 1 + 1 + 1) (by omega) 2 (by decide)
      have c1 := cat (List.take k s) x (by have := take_len s k; omega)
      simp only [c1, k0, hkle, hc, TMA, Int.toNat_natCast, Nat.mul_one, RR, IA, PA, RA0, RA1, RA2, RA3, RA4, RA5, RA6, RA7, RA8, RA9, RA10, Nat.reduceAdd, Nat.reduceMul, Nat.reduceEqDiff, Nat.reduceLeDiff, Nat.reduceLT, Int.reduceToNat, Int.reduceLT, Int.reduceLE, Int.reduceEq, Int.reduceNeg, Int.reduceAdd, Int.reduceSub, Int.reduceMul, reduceIte] at hrun
      rw [pick_call (withOpt_nil_lo (by decide)) (by rfl) hw] at hrun
      obtain ⟨w, rfl⟩ : ∃ q : Nat, w = (q : Int) := ⟨w.toNat, by omega⟩
      have hww : IntKind.i64.wrap ((k : Int) + (w : Int)) = ((k + w : Nat) : Int) := by rw [wrap64 (by omega) (by omega)]; omega
      have hz : (0 : Int) ≤ ((k + w : Nat) : Int) := by omega
      have hkw : ((k + w : Nat) : Int) ≤ (List.length s : Int) := by omega
      have c2 := cat (List.take k s ++ x) (List.drop (k + w) s) (by
        have := take_len s k
        have := drop_len s (k + w)
        simp only [List.length_append]
        omega)
      simp only [c1, c2, hww, hz, hkw, k0, hkle, hc, TMA, Int.toNat_natCast, Nat.mul_one, RR, IA, PA, RA0, RA1, RA2, RA3, RA4, RA5, RA6, RA7, RA8, RA9, RA10, Nat.reduceAdd, Nat.reduceMul, Nat.reduceEqDiff, Nat.reduceLeDiff, Nat.reduceLT, Int.reduceToNat, Int.reduceLT, Int.reduceLE, Int.reduceEq, Int.reduceNeg, Int.reduceAdd, Int.reduceSub, Int.reduceMul, reduceIte] at hrun
      exact ⟨_, q + 1 + 1 + 1 + 1, hrun _ (out_one rfl rfl rfl (src_cl l (q + 1 + 1 + 1 + 1)) rfl), by
        have := take_len s k
        have := drop_len s (k + w)
        simp only [List.length_append]
        omega, by omega⟩
  | some s =>
    rw [hcode] at hc
    have hs0 := code_pos hcode
    have hs1 := code_len hcode
    simp only [hc, adopt_sb2, TMA, Int.toNat_natCast, Nat.mul_one, RR, IA, PA, RA0, RA1, RA2, RA3, RA4, RA5, RA6, RA7, RA8, RA9, RA10, Nat.reduceAdd, Nat.reduceMul, Nat.reduceEqDiff, Nat.reduceLeDiff, Nat.reduceLT, Int.reduceToNat, Int.reduceLT, Int.reduceLE, Int.reduceEq, Int.reduceNeg, Int.reduceAdd, Int.reduceSub, Int.reduceMul, reduceIte] at hrun
    obtain ⟨u, u0, u1, hu⟩ := pick_ev l hl q (by omega) 10 (by decide)
    try simp only [hc, TMA, Int.toNat_natCast, Nat.mul_one, RR, IA, PA, RA0, RA1, RA2, RA3, RA4, RA5, RA6, RA7, RA8, RA9, RA10, Nat.reduceAdd, Nat.reduceMul, Nat.reduceEqDiff, Nat.reduceLeDiff, Nat.reduceLT, Int.reduceToNat, Int.reduceLT, Int.reduceLE, Int.reduceEq, Int.reduceNeg, Int.reduceAdd, Int.reduceSub, Int.reduceMul, reduceIte] at hrun
    rw [pick_call (withOpt_nil_lo (by decide)) (by rfl) hu] at hrun
    by_cases hu0 : 0 < u
    · simp only [hu0, hc, TMA, Int.toNat_natCast, Nat.mul_one, RR, IA, PA, RA0, RA1, RA2, RA3, RA4, RA5, RA6, RA7, RA8, RA9, RA10, Nat.reduceAdd, Nat.reduceMul, Nat.reduceEqDiff, Nat.reduceLeDiff, Nat.reduceLT, Int.reduceToNat, Int.reduceLT, Int.reduceLE, Int.reduceEq, Int.reduceNeg, Int.reduceAdd, Int.reduceSub, Int.reduceMul, reduceIte] at hrun
      exact ⟨s, q + 1, hrun _ (out_one rfl rfl rfl (src_cl l (q + 1)) rfl), by omega, by omega⟩
    · obtain ⟨k, k0, k1, hk⟩ := pick_ev l hl (q + 1) (by omega) (List.length s : Int) (by omega)
      have hkl := k1 (by omega)
      obtain ⟨k, rfl⟩ : ∃ q : Nat, k = (q : Int) := ⟨k.toNat, by omega⟩
      simp only [hu0, hc, TMA, Int.toNat_natCast, Nat.mul_one, RR, IA, PA, RA0, RA1, RA2, RA3, RA4, RA5, RA6, RA7, RA8, RA9, RA10, Nat.reduceAdd, Nat.reduceMul, Nat.reduceEqDiff, Nat.reduceLeDiff, Nat.reduceLT, Int.reduceToNat, Int.reduceLT, Int.reduceLE, Int.reduceEq, Int.reduceNeg, Int.reduceAdd, Int.reduceSub, Int.reduceMul, reduceIte] at hrun
      rw [pick_call (withOpt_nil_lo (by decide)) (by rfl) hk] at hrun
      obtain ⟨x, hm, hx⟩ := of_ev l hl (q + 1 + 1) (by omega) true cut7bL (by decide) (by decide)
      have hxl := cut7b_len x hm
      have hkle : (k : Int) ≤ (List.length s : Int) := by omega
      simp only [cut7b, k0, hkle, hc, TMA, Int.toNat_natCast, Nat.mul_one, RR, IA, PA, RA0, RA1, RA2, RA3, RA4, RA5, RA6, RA7, RA8, RA9, RA10, Nat.reduceAdd, Nat.reduceMul, Nat.reduceEqDiff, Nat.reduceLeDiff, Nat.reduceLT, Int.reduceToNat, Int.reduceLT, Int.reduceLE, Int.reduceEq, Int.reduceNeg, Int.reduceAdd, Int.reduceSub, Int.reduceMul, reduceIte] at hrun
      rw [of_call (L := cut7bL) (n := 7) rfl (by rfl) hx] at hrun
      obtain ⟨w, w0, w1, hw⟩ := pick_ev l hl (q + 1 + 1 + 1) (by omega) 2 (by decide)
      have c1 := cat (List.take k s) x (by have := take_len s k; omega)
      simp only [c1, k0, hkle, hc, TMA, Int.toNat_natCast, Nat.mul_one, RR, IA, PA, RA0, RA1, RA2, RA3, RA4, RA5, RA6, RA7, RA8, RA9, RA10, Nat.reduceAdd, Nat.reduceMul, Nat.reduceEqDiff, Nat.reduceLeDiff, Nat.reduceLT, Int.reduceToNat, Int.reduceLT, Int.reduceLE, Int.reduceEq, Int.reduceNeg, Int.reduceAdd, Int.reduceSub, Int.reduceMul, reduceIte] at hrun
      rw [pick_call (withOpt_nil_lo (by decide)) (by rfl) hw] at hrun
      obtain ⟨w, rfl⟩ : ∃ q : Nat, w = (q : Int) := ⟨w.toNat, by omega⟩
      have hww : IntKind.i64.wrap ((k : Int) + (w : Int)) = ((k + w : Nat) : Int) := by rw [wrap64 (by omega) (by omega)]; omega
      have hz : (0 : Int) ≤ ((k + w : Nat) : Int) := by omega
      have hkw : ((k + w : Nat) : Int) ≤ (List.length s : Int) := by omega
      have c2 := cat (List.take k s ++ x) (List.drop (k + w) s) (by
        have := take_len s k
        have := drop_len s (k + w)
        simp only [List.length_append]
        omega)
      simp only [c1, c2, hww, hz, hkw, k0, hkle, hc, TMA, Int.toNat_natCast, Nat.mul_one, RR, IA, PA, RA0, RA1, RA2, RA3, RA4, RA5, RA6, RA7, RA8, RA9, RA10, Nat.reduceAdd, Nat.reduceMul, Nat.reduceEqDiff, Nat.reduceLeDiff, Nat.reduceLT, Int.reduceToNat, Int.reduceLT, Int.reduceLE, Int.reduceEq, Int.reduceNeg, Int.reduceAdd, Int.reduceSub, Int.reduceMul, reduceIte] at hrun
      exact ⟨_, q + 1 + 1 + 1 + 1, hrun _ (out_one rfl rfl rfl (src_cl l (q + 1 + 1 + 1 + 1)) rfl), by
        have := take_len s k
        have := drop_len s (k + w)
        simp only [List.length_append]
        omega, by omega⟩
theorem some7_call {σ : Sto} {l : List UInt8} {p p' id : Nat} {s : List UInt8} (hσ : σ id = some (.ob 48 (srcC l p))) (h : EE 10 [srcL l p] = some (.t [S s, .t [srcL l p']])) (key : Nat) :
    callOp EE (withOpt [] pf) σ key 10 [.r id 0] = some (S s, upd σ id (some (.ob 48 (srcC l p')))) :=
  call_ob_v (withOpt_nil_lo (by decide)) hσ (src_cl l p) rfl h (src_cl l p') rfl (show 1 ≤ 4 by decide)
end
end Go.Proofs.YtegbkihgnofkfaaGreatDoor.Ev
