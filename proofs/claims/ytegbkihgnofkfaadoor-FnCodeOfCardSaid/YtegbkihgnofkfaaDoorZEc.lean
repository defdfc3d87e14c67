/-
Texts Ec to Ec of the work.
-/
import Derived.Test.YtegbkihgnofkfaaDoorZEa
import Derived.Test.YtegbkihgnofkfaaDoorZDk
/-
Drawn laws: a term's code.
-/
namespace Go.Proofs.YtegbkihgnofkfaaDoor.Ev
section
set_option linter.unusedVariables false
set_option linter.unusedSimpArgs false
open Go Go.RowKit
set_option linter.unusedVariables false
set_option linter.unusedSimpArgs false
/-- How many of these have two bytes. -/
def twos : List (List UInt8) → Nat
  | [] => 0
  | x :: l => (if x.length = 2 then 1 else 0) + twos l
theorem twos_app : ∀ (a b : List (List UInt8)), twos (a ++ b) = twos a + twos b
  | [], b => by simp [twos]
  | x :: a, b => by
    simp only [List.cons_append, twos, twos_app a b]
    omega
theorem list_size : ∀ t, (listT t).length = sizeT t + twos (listT t)
  | .dig c => rfl
  | .var c => rfl
  | .one s x => by
    have := list_size x
    have e : twos [[s]] = 0 := rfl
    simp only [listT, twos_app, sizeT, List.length_append, List.length_cons, List.length_nil, e]
    omega
  | .two s x y => by
    have := list_size x
    have := list_size y
    have e : twos [[s]] = 0 := rfl
    simp only [listT, twos_app, sizeT, List.length_append, List.length_cons, List.length_nil, e]
    omega
  | .loop s v x y => by
    have := list_size x
    have := list_size y
    have e : twos [[s, v]] = 1 := rfl
    have e2 : twos [[s + 2]] = 0 := rfl
    simp only [listT, twos_app, sizeT, List.length_append, List.length_cons, List.length_nil, e, e2]
    omega
theorem twos_le : ∀ l : List (List UInt8), twos l ≤ l.length
  | [] => Nat.le_refl _
  | x :: l => by
    have := twos_le l
    simp only [twos, List.length_cons]
    split <;> omega
/-- A term's code, if it is short enough, is the code of the term. -/
theorem specB_code {t c : List UInt8} {x : T} (hr : rdT t = some x) (hc : c = joinS (listT x)) (hl : c.length ≤ 200) : ∃ hs ls, specB c = some (x, hs, ls) := by
  obtain ⟨hw, _, h80⟩ := rdT_wf hr
  obtain ⟨hs, ls, h⟩ := runP_list x hw ⟨[], []⟩ (Nat.le_refl _)
  refine ⟨hs, ls, ?_⟩
  unfold specB
  rw [if_neg (by omega), hc, cut_list hw, h]
  simp only
  rw [if_pos (rd_lenD hr)]
theorem T_lawFnCode : TT 3 = some (Tryd.f3, bodyOf Tryd.f3) := by kernel_rfl
theorem loops_count (x : Bool) (id : Nat) (σ0 : Sto) (L : List (List UInt8)) (hL : L.length ≤ 1000000) (sl : AV) (hsl : (sl = .s x L.length (strs L)) ∨ (sl = .w id 0 L.length ∧ σ0 id = some (.row 9 1 L.length (strs L)))) : ∀ (r : List (List UInt8)) (i n acc : Nat) (e : Nat → AV) (nx : Nat) (q : Option (Ex × St)),
    L.drop i = r → r.length < n → acc ≤ i → roundsE (evC II EE (withOpt [] pf) MX (bodyL Tryd.f3 0)) n ⟨e, σ0, nx⟩ = q → e 11 = N acc → e 68 = sl → e 69 = N L.length → e 70 = N i →
    ∃ e' nx', q = some (.exit 0, ⟨e', σ0, nx'⟩) ∧ e' 11 = N ((acc + twos r : Nat) : Int) ∧ (∀ t, t < 11 → e' t = e t)
  | [], i, n, acc, e, nx, q, hr, hn, ha, hq, h11, h68, h69, h70 => by
    obtain ⟨n, rfl⟩ : ∃ k, n = k + 1 := ⟨n - 1, by simp only [List.length_nil] at hn; omega⟩
    rw [rounds_rd] at hq
    have hge : L.length ≤ i := by
      have := congrArg List.length hr
      simp only [List.length_drop, List.length_nil] at this
      omega
    have hc : ¬ ((i : Int) < (L.length : Int)) := by omega
    simp only [bodyL, bodyOf, Tryd.f3, SA, loops, List.nil_append, List.append_nil, List.cons_append, List.getD_cons_zero, List.getD_cons_succ] at hq
    simp only [h69, h70, hc, RR, IA, PA, RA0, RA1, RA2, RA3, RA4, RA5, RA6, RA7, RA8, RA9, RA10, Nat.reduceAdd, Nat.reduceMul, Nat.reduceEqDiff, Nat.reduceLeDiff, Nat.reduceLT, Int.reduceToNat, Int.reduceLT, Int.reduceLE, Int.reduceEq, Int.reduceNeg, Int.reduceAdd, Int.reduceSub, Int.reduceMul, reduceIte] at hq
    refine ⟨_, _, hq.symm, h11, fun t ht => ?_⟩
    have : ¬ (t = 71) := by omega
    simp only [this, if_false]
  | z :: r, i, n, acc, e, nx, q, hr, hn, ha, hq, h11, h68, h69, h70 => by
    obtain ⟨n, rfl⟩ : ∃ k, n = k + 1 := ⟨n - 1, by simp only [List.length_cons] at hn; omega⟩
    rw [rounds_rd] at hq
    have hlt : i < L.length := by
      have := congrArg List.length hr
      simp only [List.length_drop, List.length_cons] at this
      omega
    have hc : ((i : Int) < (L.length : Int)) := by omega
    have hz : (0 : Int) ≤ (i : Int) := by omega
    have hw : IntKind.i64.wrap ((i : Int) + 1) = ((i + 1 : Nat) : Int) := by rw [wrap64 (by omega) (by omega)]; rfl
    have hwa : IntKind.i64.wrap ((acc : Int) + 1) = ((acc + 1 : Nat) : Int) := by rw [wrap64 (by omega) (by omega)]; rfl
    have hd : ((strs L).drop i).head? = some (S z) := by
      rw [strs_drop, hr]
      rfl
    have hl : (strs L).length = L.length := strs_len L
    have hr2 : L.drop (i + 1) = r := by
      rw [← List.drop_drop, hr]
      rfl
    simp only [bodyL, bodyOf, Tryd.f3, SA, loops, List.nil_append, List.append_nil, List.cons_append, List.getD_cons_zero, List.getD_cons_succ] at hq
    rcases hsl with rfl | ⟨rfl, hrow⟩
    · by_cases h2 : z.length = 2
      · have h2' : ((z.length : Int) = 2) := by omega
        simp only [h11, h68, h69, h70, hc, hz, hw, hwa, hd, hl, h2', Int.toNat_natCast, Nat.mul_one, RR, IA, PA, RA0, RA1, RA2, RA3, RA4, RA5, RA6, RA7, RA8, RA9, RA10, Nat.reduceAdd, Nat.reduceMul, Nat.reduceEqDiff, Nat.reduceLeDiff, Nat.reduceLT, Int.reduceToNat, Int.reduceLT, Int.reduceLE, Int.reduceEq, Int.reduceNeg, Int.reduceAdd, Int.reduceSub, Int.reduceMul, reduceIte] at hq
        obtain ⟨e', nx', g1, g2, g3⟩ := loops_count x id σ0 L hL _ (.inl rfl) r (i + 1) n (acc + 1) _ _ q hr2 (by simp only [List.length_cons] at hn; omega) (by omega) hq rfl h68 h69 rfl
        refine ⟨e', nx', g1, ?_, fun t ht => ?_⟩
        · rw [g2, show acc + 1 + twos r = acc + twos (z :: r) by
            simp only [twos, h2, if_true, if_false]
            omega]
        · have hN : ∀ k, 11 ≤ k → ¬ (t = k) := fun k hk => by omega
          rw [g3 t ht]
          simp only [hN 70 (by decide), hN 79 (by decide), hN 71 (by decide), hN 72 (by decide), hN 73 (by decide), hN 13 (by decide), hN 74 (by decide), hN 75 (by decide), hN 76 (by decide), hN 11 (by decide), hN 77 (by decide), hN 78 (by decide), if_false]
      · have h2' : ¬ ((z.length : Int) = 2) := by omega
        simp only [h11, h68, h69, h70, hc, hz, hw, hwa, hd, hl, h2', Int.toNat_natCast, Nat.mul_one, RR, IA, PA, RA0, RA1, RA2, RA3, RA4, RA5, RA6, RA7, RA8, RA9, RA10, Nat.reduceAdd, Nat.reduceMul, Nat.reduceEqDiff, Nat.reduceLeDiff, Nat.reduceLT, Int.reduceToNat, Int.reduceLT, Int.reduceLE, Int.reduceEq, Int.reduceNeg, Int.reduceAdd, Int.reduceSub, Int.reduceMul, reduceIte] at hq
        obtain ⟨e', nx', g1, g2, g3⟩ := loops_count x id σ0 L hL _ (.inl rfl) r (i + 1) n (acc) _ _ q hr2 (by simp only [List.length_cons] at hn; omega) (by omega) hq h11 h68 h69 rfl
        refine ⟨e', nx', g1, ?_, fun t ht => ?_⟩
        · rw [g2, show acc + twos r = acc + twos (z :: r) by
            simp only [twos, h2, if_true, if_false]
            omega]
        · have hN : ∀ k, 11 ≤ k → ¬ (t = k) := fun k hk => by omega
          rw [g3 t ht]
          simp only [hN 70 (by decide), hN 79 (by decide), hN 71 (by decide), hN 72 (by decide), hN 73 (by decide), hN 13 (by decide), hN 74 (by decide), hN 75 (by decide), hN 76 (by decide), if_false]
    · by_cases h2 : z.length = 2
      · have h2' : ((z.length : Int) = 2) := by omega
        simp only [h11, h68, h69, h70, hc, hz, hw, hwa, hd, hl, h2', hrow, Int.toNat_natCast, Nat.mul_one, RR, IA, PA, RA0, RA1, RA2, RA3, RA4, RA5, RA6, RA7, RA8, RA9, RA10, Nat.reduceAdd, Nat.reduceMul, Nat.reduceEqDiff, Nat.reduceLeDiff, Nat.reduceLT, Int.reduceToNat, Int.reduceLT, Int.reduceLE, Int.reduceEq, Int.reduceNeg, Int.reduceAdd, Int.reduceSub, Int.reduceMul, reduceIte] at hq
        obtain ⟨e', nx', g1, g2, g3⟩ := loops_count x id σ0 L hL _ (.inr ⟨rfl, hrow⟩) r (i + 1) n (acc + 1) _ _ q hr2 (by simp only [List.length_cons] at hn; omega) (by omega) hq rfl h68 h69 rfl
        refine ⟨e', nx', g1, ?_, fun t ht => ?_⟩
        · rw [g2, show acc + 1 + twos r = acc + twos (z :: r) by
            simp only [twos, h2, if_true, if_false]
            omega]
        · have hN : ∀ k, 11 ≤ k → ¬ (t = k) := fun k hk => by omega
          rw [g3 t ht]
          simp only [hN 70 (by decide), hN 79 (by decide), hN 71 (by decide), hN 72 (by decide), hN 73 (by decide), hN 13 (by decide), hN 74 (by decide), hN 75 (by decide), hN 76 (by decide), hN 11 (by decide), hN 77 (by decide), hN 78 (by decide), if_false]
      · have h2' : ¬ ((z.length : Int) = 2) := by omega
        simp only [h11, h68, h69, h70, hc, hz, hw, hwa, hd, hl, h2', hrow, Int.toNat_natCast, Nat.mul_one, RR, IA, PA, RA0, RA1, RA2, RA3, RA4, RA5, RA6, RA7, RA8, RA9, RA10, Nat.reduceAdd, Nat.reduceMul, Nat.reduceEqDiff, Nat.reduceLeDiff, Nat.reduceLT, Int.reduceToNat, Int.reduceLT, Int.reduceLE, Int.reduceEq, Int.reduceNeg, Int.reduceAdd, Int.reduceSub, Int.reduceMul, reduceIte] at hq
        obtain ⟨e', nx', g1, g2, g3⟩ := loops_count x id σ0 L hL _ (.inr ⟨rfl, hrow⟩) r (i + 1) n (acc) _ _ q hr2 (by simp only [List.length_cons] at hn; omega) (by omega) hq h11 h68 h69 rfl
        refine ⟨e', nx', g1, ?_, fun t ht => ?_⟩
        · rw [g2, show acc + twos r = acc + twos (z :: r) by
            simp only [twos, h2, if_true, if_false]
            omega]
        · have hN : ∀ k, 11 ≤ k → ¬ (t = k) := fun k hk => by omega
          rw [g3 t ht]
          simp only [hN 70 (by decide), hN 79 (by decide), hN 71 (by decide), hN 72 (by decide), hN 73 (by decide), hN 13 (by decide), hN 74 (by decide), hN 75 (by decide), hN 76 (by decide), if_false]
set_option maxHeartbeats 16000000 in
theorem fnCode_law (l : List UInt8) : EE 3 [bytesV l] = some (B true) := by
  refine EE_plain T_lawFnCode (by decide) (Nat.le_of_ble_eq_true rfl) (bytes_cl l) ?_
  rw [show opt 3 = [] from rfl]
  simp only [bodyOf, Tryd.f3, SA]
  by_cases hbig : (1048576 : Int) < (l.length : Int)
  · simp only [bytesV_eq, hbig, RR, IA, PA, RA0, RA1, RA2, RA3, RA4, RA5, RA6, RA7, RA8, RA9, RA10, Nat.reduceAdd, Nat.reduceMul, Nat.reduceEqDiff, Nat.reduceLeDiff, Nat.reduceLT, Int.reduceToNat, Int.reduceLT, Int.reduceLE, Int.reduceEq, Int.reduceNeg, Int.reduceAdd, Int.reduceSub, Int.reduceMul, reduceIte]
  · obtain ⟨t, ht, hl⟩ := drawCode_ev l
    rw [bytesV_eq] at ht
    have hcb := cbs_closed l
    have h := implCodeOf_ev t (by omega)
    have k := specCodeOf_ev t (by omega)
    have tv := termValid_ev t (by omega)
    unfold codeV at k
    cases hr : rdT t with
    | none =>
      have hn : codeT t = none := by unfold codeT; rw [hr]; rfl
      rw [hn] at h k
      rw [hr] at tv
      simp only [Option.isSome_none] at h k tv
      simp only [bytesV_eq, hbig, hcb, ht, h, k, tv, adopt_sb2, TMA, RR, IA, PA, RA0, RA1, RA2, RA3, RA4, RA5, RA6, RA7, RA8, RA9, RA10, Nat.reduceAdd, Nat.reduceMul, Nat.reduceEqDiff, Nat.reduceLeDiff, Nat.reduceLT, Int.reduceToNat, Int.reduceLT, Int.reduceLE, Int.reduceEq, Int.reduceNeg, Int.reduceAdd, Int.reduceSub, Int.reduceMul, reduceIte]
    | some x =>
      obtain ⟨c, hc⟩ : ∃ c, c = joinS (listT x) := ⟨_, rfl⟩
      have hn : codeT t = some c := by unfold codeT; rw [hr, hc]; rfl
      have hcl := code_len hn
      rw [hn] at h k
      rw [hr] at tv
      simp only [Option.isSome_some] at h k tv
      have h2 := implTermOf_ev c (by omega)
      rw [impl_eq] at h2
      have h3 := implInstructionsOf_ev c (by omega)
      have hcc : (c == c) = true := by simp
      by_cases h200 : 200 < c.length
      · have hb : specB c = none := by unfold specB; rw [if_pos h200]
        rw [hb] at h2 h3
        simp only [Option.map_none, Option.isSome_none] at h2 h3
        rw [if_neg (by decide)] at h3
        simp only [bytesV_eq, hbig, hcb, ht, h, k, tv, h2, h3, hcc, adopt_sb2, TMA, RR, IA, PA, RA0, RA1, RA2, RA3, RA4, RA5, RA6, RA7, RA8, RA9, RA10, Nat.reduceAdd, Nat.reduceMul, Nat.reduceEqDiff, Nat.reduceLeDiff, Nat.reduceLT, Int.reduceToNat, Int.reduceLT, Int.reduceLE, Int.reduceEq, Int.reduceNeg, Int.reduceAdd, Int.reduceSub, Int.reduceMul, reduceIte]
        generalize hq : roundsE _ _ _ = q
        obtain ⟨e', nx', rfl, g2, g3⟩ := loops_count true 0 _ [] (by decide) _ (.inl rfl) [] 0 MX 0 _ _ q rfl (by decide) (Nat.le_refl _) hq rfl rfl rfl rfl
        have g4 : e' 4 = S c := g3 4 (by decide)
        have hbig2 : (200 : Int) < (c.length : Int) := by omega
        simp only [g2, g4, hbig2, TMA, RR, IA, PA, RA0, RA1, RA2, RA3, RA4, RA5, RA6, RA7, RA8, RA9, RA10, Nat.reduceAdd, Nat.reduceMul, Nat.reduceEqDiff, Nat.reduceLeDiff, Nat.reduceLT, Int.reduceToNat, Int.reduceLT, Int.reduceLE, Int.reduceEq, Int.reduceNeg, Int.reduceAdd, Int.reduceSub, Int.reduceMul, reduceIte]
      · obtain ⟨hs, ls, hb⟩ := specB_code hr hc (by omega)
        obtain ⟨_, hw, hcut, _, hrd⟩ := spec_impl hb
        rw [hb] at h2 h3
        simp only [Option.map_some, Option.isSome_some, if_true] at h2 h3
        rw [hcut] at h3
        have cv := implCodeValid_ev c (by omega)
        rw [hb] at cv
        simp only [Option.isSome_some] at cv
        have sz := sizeOf_ev t (by omega)
        have dc := implDepthOfCode_ev c (by omega)
        have dt := implDepthOfTerm_ev t (by omega)
        have e1 : depC c = depT t := by
          unfold depC depT
          rw [hb, hr]
        have e2 : sizeX t = (sizeT x : Int) := by unfold sizeX; rw [hr]
        rw [e1] at dc
        rw [e2] at sz
        have hlt := (rdT_wf hr).2.1
        have htx : textT x = t := (rdT_text hr).symm
        rw [htx] at h2
        simp only [bytesV_eq, hbig, hcb, ht, h, k, tv, h2, h3, hcc, adopt_sb2, strs_closed, TMA, RR, IA, PA, RA0, RA1, RA2, RA3, RA4, RA5, RA6, RA7, RA8, RA9, RA10, Nat.reduceAdd, Nat.reduceMul, Nat.reduceEqDiff, Nat.reduceLeDiff, Nat.reduceLT, Int.reduceToNat, Int.reduceLT, Int.reduceLE, Int.reduceEq, Int.reduceNeg, Int.reduceAdd, Int.reduceSub, Int.reduceMul, reduceIte]
        generalize hq : roundsE _ _ _ = q
        obtain ⟨e', nx', rfl, g2, g3⟩ := loops_count true 188 _ (listT x) (by omega) _ (.inr ⟨rfl, rfl⟩) (listT x) 0 MX 0 _ _ q rfl (by
          have : (1000000 : Nat) < MX := by decide
          omega) (Nat.le_refl _) hq rfl rfl rfl rfl
        have g4 : e' 4 = S c := g3 4 (by decide)
        have g33 : e' 3 = S t := g3 3 (by decide)
        have g8 : e' 8 = S t := g3 8 (by decide)
        have g9 : e' 9 = B true := g3 9 (by decide)
        have g10 : e' 10 = .w 188 0 (listT x).length := g3 10 (by decide)
        rw [Nat.zero_add] at g2
        have hs2 : ¬ ((200 : Int) < (c.length : Int)) := by omega
        have hls := list_size x
        have htl := twos_le (listT x)
        have hsl := size_len x
        have hxl := rd_lenD hr
        have hws : IntKind.i64.wrap ((sizeT x : Int) + (twos (listT x) : Int)) = ((listT x).length : Int) := by rw [wrap64 (by omega) (by omega)]; omega
        have htt : (t == t) = true := by simp
        have hnn : decide (((listT x).length : Int) = ((listT x).length : Int)) = true := by simp
        have hdd : decide (depT t = depT t) = true := by simp
        simp only [g2, g33, g4, g8, g9, g10, hs2, cv, sz, dc, dt, hws, htt, hnn, hdd, TMA, RR, IA, PA, RA0, RA1, RA2, RA3, RA4, RA5, RA6, RA7, RA8, RA9, RA10, Nat.reduceAdd, Nat.reduceMul, Nat.reduceEqDiff, Nat.reduceLeDiff, Nat.reduceLT, Int.reduceToNat, Int.reduceLT, Int.reduceLE, Int.reduceEq, Int.reduceNeg, Int.reduceAdd, Int.reduceSub, Int.reduceMul, reduceIte]
end
end Go.Proofs.YtegbkihgnofkfaaDoor.Ev
