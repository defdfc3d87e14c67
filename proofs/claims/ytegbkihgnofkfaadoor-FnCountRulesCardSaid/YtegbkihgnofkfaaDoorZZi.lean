/-
Texts Zi to Zi of the work.
-/
import Derived.Test.YtegbkihgnofkfaaDoorZZj
import Derived.Test.YtegbkihgnofkfaaDoorZZh
import Derived.Test.YtegbkihgnofkfaaDoorZDh
/-
Drawn laws: how often each rule is used.
-/
namespace Go.Proofs.YtegbkihgnofkfaaDoor.Ev
section
set_option linter.unusedVariables false
set_option linter.unusedSimpArgs false
open Go Go.RowKit
set_option linter.unusedVariables false
set_option linter.unusedSimpArgs false
theorem T_lawFnCount : TT 6 = some (Tryd.f6, bodyOf Tryd.f6) := by kernel_rfl
set_option maxHeartbeats 8000000 in
theorem fnCount_law (l : List UInt8) : EE 6 [bytesV l] = some (B true) := by
  refine EE_plain T_lawFnCount (by decide) (Nat.le_of_ble_eq_true rfl) (bytes_cl l) ?_
  rw [show opt 6 = [] from rfl]
  simp only [bodyOf, Tryd.f6, SA]
  by_cases hbig : (1048576 : Int) < (l.length : Int)
  · simp only [bytesV_eq, hbig, RR, IA, PA, RA0, RA1, RA2, RA3, RA4, RA5, RA6, RA7, RA8, RA9, RA10, Nat.reduceAdd, Nat.reduceMul, Nat.reduceEqDiff, Nat.reduceLeDiff, Nat.reduceLT, Int.reduceToNat, Int.reduceLT, Int.reduceLE, Int.reduceEq, Int.reduceNeg, Int.reduceAdd, Int.reduceSub, Int.reduceMul, reduceIte]
  · obtain ⟨t, ht, hl⟩ := drawCount_ev l
    rw [bytesV_eq] at ht
    have hcb := cbs_closed l
    have h := implCount_ev t (by omega)
    have k := specCount_ev t (by omega)
    have h2 := implSimp_ev t (by omega)
    have h3 := implIsSimple_ev t (by omega)
    have h4 := sizeOf_ev t (by omega)
    unfold cntV at h k
    cases hr : rdT t with
    | none =>
      rw [hr] at h k
      simp only at h k
      have hs : EE 23 [.s true 0 [], .s true 0 []] = some (B true) := faSame_ev true true [] (by decide)
      simp only [bytesV_eq, hbig, hcb, ht, h, k, hs, adopt_sn, RR, IA, PA, RA0, RA1, RA2, RA3, RA4, RA5, RA6, RA7, RA8, RA9, RA10, Nat.reduceAdd, Nat.reduceMul, Nat.reduceEqDiff, Nat.reduceLeDiff, Nat.reduceLT, Int.reduceToNat, Int.reduceLT, Int.reduceLE, Int.reduceEq, Int.reduceNeg, Int.reduceAdd, Int.reduceSub, Int.reduceMul, reduceIte]
    | some x =>
      rw [hr] at h k
      simp only at h k
      obtain ⟨d1, d2, d3⟩ := done_fit hr
      have hinv := done_inv hr
      have hiff := isSimple_iff hr
      obtain ⟨L, hL⟩ : ∃ L, (doneX x).2 = L := ⟨_, rfl⟩
      rw [hL] at h k d3 hiff
      have h5 := sizeOf_ev (textT (doneX x).1) (by omega)
      have e5 : sizeX (textT (doneX x).1) = (sizeT (doneX x).1 : Int) := by
        unfold sizeX
        rw [rdT_of d1 d2]
      have e4 : sizeX t = (sizeT x : Int) := by
        unfold sizeX
        rw [hr]
      rw [e5] at h5
      rw [e4] at h4
      have e2 : simpX t = (textT (doneX x).1, true) := by
        unfold simpX
        rw [hr]
      rw [e2] at h2
      simp only at h2
      have hsz := hinv.sz
      have hle := hinv.le
      rw [hL, c0_sum] at hsz hle
      have hnn := hinv.nn
      rw [hL] at hnn
      have hz0 := hinv.z0
      rw [hL] at hz0
      have hhd : (ints L).head? = some (N 0) := by
        cases L with
        | nil => cases d3
        | cons y L =>
          simp only [List.getElem?_cons_zero] at hz0
          have : y = 0 := by
            have := hz0.trans (show c0[0]? = some 0 from rfl)
            exact Option.some.inj this
          subst this
          rfl
      have hsl := size_len x
      have hxl := rd_len hr
      have hs := faSame_ev false false L (by omega)
      have htot := faTotal_ev false L (by omega) hnn (by omega)
      have hlen : (ints L).length = L.length * 1 := by rw [ints_len, Nat.mul_one]
      have hll : (ints L).length = 7 := by rw [ints_len, d3]
      have hws : IntKind.i64.wrap ((sizeT (doneX x).1 : Int) + L.sum) = (sizeT (doneX x).1 : Int) + L.sum := wrap64 (by omega) (by omega)
      have hfin : (decide (L.sum = 0) == isSimpX t) = true := by
        cases hi : isSimpX t with
        | true =>
          have := hiff.1.1 hi
          rw [this]
          rfl
        | false =>
          have : ¬ L.sum = 0 := fun e => by
            have := hiff.1.2 e
            rw [hi] at this
            cases this
          rw [decide_eq_false this]
          rfl
      have hle2 : (sizeT (doneX x).1 : Int) + L.sum ≤ (sizeT x : Int) := by omega
      rw [← d3] at h k
      simp only [bytesV_eq, hbig, hcb, ht, h, k, adopt_ob2 _ _ _ (ints_closed L), RR, IA, PA, RA0, RA1, RA2, RA3, RA4, RA5, RA6, RA7, RA8, RA9, RA10, Nat.reduceAdd, Nat.reduceMul, Nat.reduceEqDiff, Nat.reduceLeDiff, Nat.reduceLT, Int.reduceToNat, Int.reduceLT, Int.reduceLE, Int.reduceEq, Int.reduceNeg, Int.reduceAdd, Int.reduceSub, Int.reduceMul, reduceIte]
      rw [call0_ww (E := 3) (sz := 1) (E' := 3) (sz' := 1) (cs := ints L) (ds := ints L) (by rfl) (by rfl) (by rfl) hlen hlen (ints_closed _) (ints_closed _) rfl hs]
      have hl7 : (L.length : Int) = 7 := by omega
      simp only [ht, h2, hl7, hhd, adopt_sbX, RR, IA, PA, RA0, RA1, RA2, RA3, RA4, RA5, RA6, RA7, RA8, RA9, RA10, Nat.reduceAdd, Nat.reduceMul, Nat.reduceEqDiff, Nat.reduceLeDiff, Nat.reduceLT, Int.reduceToNat, Int.reduceLT, Int.reduceLE, Int.reduceEq, Int.reduceNeg, Int.reduceAdd, Int.reduceSub, Int.reduceMul, reduceIte]
      rw [call0_w (E := 3) (sz := 1) (cs := ints L) (by rfl) (by rfl) hlen (ints_closed _) (by rfl) (by exact htot)]
      generalize hb1 : decide (L.sum = 0) = b1 at hfin
      generalize hb2 : isSimpX t = b2 at hfin h3
      simp only [hb1, h3, hfin, h5, RR, IA, PA, RA0, RA1, RA2, RA3, RA4, RA5, RA6, RA7, RA8, RA9, RA10, Nat.reduceAdd, Nat.reduceMul, Nat.reduceEqDiff, Nat.reduceLeDiff, Nat.reduceLT, Int.reduceToNat, Int.reduceLT, Int.reduceLE, Int.reduceEq, Int.reduceNeg, Int.reduceAdd, Int.reduceSub, Int.reduceMul, reduceIte]
      rw [call0_w (E := 3) (sz := 1) (cs := ints L) (by rfl) (by rfl) hlen (ints_closed _) (by rfl) (by exact htot)]
      simp only [h4, hws, hle2, RR, IA, PA, RA0, RA1, RA2, RA3, RA4, RA5, RA6, RA7, RA8, RA9, RA10, Nat.reduceAdd, Nat.reduceMul, Nat.reduceEqDiff, Nat.reduceLeDiff, Nat.reduceLT, Int.reduceToNat, Int.reduceLT, Int.reduceLE, Int.reduceEq, Int.reduceNeg, Int.reduceAdd, Int.reduceSub, Int.reduceMul, reduceIte]
end
end Go.Proofs.YtegbkihgnofkfaaDoor.Ev
