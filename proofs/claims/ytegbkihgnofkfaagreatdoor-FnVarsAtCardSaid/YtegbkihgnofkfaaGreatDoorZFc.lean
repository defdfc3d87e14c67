/-
Texts Fc to Fc of the work.
-/
import Derived.Test.YtegbkihgnofkfaaGreatDoorZFa
import Derived.Test.YtegbkihgnofkfaaGreatDoorZFb
/-
Drawn laws: variables of a loop: the law's loops.
-/
namespace Go.Proofs.YtegbkihgnofkfaaGreatDoor.Ev
section
set_option linter.unusedVariables false
set_option linter.unusedSimpArgs false
open Go Go.RowKit
set_option linter.unusedVariables false
set_option linter.unusedSimpArgs false
/-- What does not change while the law's loops run. -/
structure VS (iid lid a : Nat) (L : List (List UInt8)) (o : List UInt8) (σ : Sto) (e : Nat → AV) : Prop where
  e4 : e 4 = N a
  e5 : e 5 = S o
  e9 : e 9 = .w iid 0 L.length
  e10 : e 10 = .w lid 0 L.length
  ri : σ iid = some (.row 9 1 L.length (strs L))
  rl : σ lid = some (.row 3 1 L.length (ints (lsI 0 L)))
/-- The loop that begins at a, up to its end. -/
structure VR (a stop : Nat) (lev : Int) (L : List (List UInt8)) : Prop where
  hin : ∀ i, a < i → i < stop → ∃ lz, ((ints (lsI 0 L)).drop i).head? = some (N lz) ∧ lev < lz
  hst : ((ints (lsI 0 L)).drop stop).head? = some (N lev)
  ha : ((ints (lsI 0 L)).drop a).head? = some (N lev)
  al : a < stop
  sn : stop < L.length
  n1 : L.length ≤ 1000
  short : ∀ y ∈ L, y.length ≤ 2
  pos : ∀ y ∈ L, 0 < y.length
theorem all_loop {iid lid a stop : Nat} {lev : Int} {L : List (List UInt8)} {o : List UInt8} {σ : Sto} (hR : VR a stop lev L) : ∀ (m i : Nat) (acc : List UInt8) (e : Nat → AV) (nx n : Nat) (q : Option (Ex × St)),
    i + m = stop → a < i → VS iid lid a L o σ e → e 12 = S acc → e 13 = N i → acc.length ≤ 2 * i → m < n → roundsE (evC II EE (withOpt [] pf) MX (bodyL Tryz.f3 0)) n ⟨e, σ, nx⟩ = q →
    ∃ e' nx', q = some (.exit 0, ⟨e', σ, nx'⟩) ∧ VS iid lid a L o σ e' ∧ ∃ acc', e' 12 = S acc' ∧ acc.length + m ≤ acc'.length
  | 0, i, acc, e, nx, n, q, him, hai, hS, h12, h13, hal, hn, hq => by
    obtain ⟨n, rfl⟩ : ∃ k, n = k + 1 := ⟨n - 1, by omega⟩
    obtain rfl : i = stop := by omega
    rw [rounds_rd] at hq
    have h4 := hS.e4
    have h9 := hS.e9
    have h10 := hS.e10
    have ri := hS.ri
    have rl := hS.rl
    have sn := hR.sn
    have n1 := hR.n1
    have hst := hR.hst
    have ha := hR.ha
    have hc : ((i : Int) < (L.length : Int)) := by omega
    have hca : ((a : Int) < (L.length : Int)) := by omega
    have hz : (0 : Int) ≤ (i : Int) := by omega
    have hza : (0 : Int) ≤ (a : Int) := by omega
    have hll : ¬ (lev < lev) := by omega
    simp only [bodyL, bodyOf, Tryz.f3, SA, loops, List.nil_append, List.append_nil, List.cons_append, List.getD_cons_zero, List.getD_cons_succ] at hq
    simp only [h4, h9, h10, h13, ri, rl, hst, ha, hc, hca, hz, hza, hll, Int.toNat_natCast, Nat.mul_one, Nat.zero_add, RR, IA, PA, RA0, RA1, RA2, RA3, RA4, RA5, RA6, RA7, RA8, RA9, RA10, Nat.reduceAdd, Nat.reduceMul, Nat.reduceEqDiff, Nat.reduceLeDiff, Nat.reduceLT, Int.reduceToNat, Int.reduceLT, Int.reduceLE, Int.reduceEq, Int.reduceNeg, Int.reduceAdd, Int.reduceSub, Int.reduceMul, reduceIte] at hq
    exact ⟨_, _, hq.symm, ⟨hS.e4, hS.e5, hS.e9, hS.e10, hS.ri, hS.rl⟩, acc, h12, Nat.le_refl _⟩
  | m + 1, i, acc, e, nx, n, q, him, hai, hS, h12, h13, hal, hn, hq => by
    obtain ⟨n, rfl⟩ : ∃ k, n = k + 1 := ⟨n - 1, by omega⟩
    rw [rounds_rd] at hq
    have h4 := hS.e4
    have h9 := hS.e9
    have h10 := hS.e10
    have ri := hS.ri
    have rl := hS.rl
    have sn := hR.sn
    have n1 := hR.n1
    have ha := hR.ha
    obtain ⟨lz, hst, hgt⟩ := hR.hin i hai (by omega)
    have hc : ((i : Int) < (L.length : Int)) := by omega
    have hca : ((a : Int) < (L.length : Int)) := by omega
    have hz : (0 : Int) ≤ (i : Int) := by omega
    have hza : (0 : Int) ≤ (a : Int) := by omega
    have hw : IntKind.i64.wrap ((i : Int) + 1) = ((i + 1 : Nat) : Int) := by rw [wrap64 (by omega) (by omega)]; rfl
    have hil : i < L.length := by omega
    have hd : ((strs L).drop i).head? = some (S L[i]) := by
      rw [List.head?_drop, strs_get, List.getElem?_eq_getElem hil]
      rfl
    have hy := hR.short _ (List.getElem_mem hil)
    have hy2 := hR.pos _ (List.getElem_mem hil)
    have hcat := cat acc L[i] (by omega)
    simp only [bodyL, bodyOf, Tryz.f3, SA, loops, List.nil_append, List.append_nil, List.cons_append, List.getD_cons_zero, List.getD_cons_succ] at hq
    simp only [h4, h9, h10, h12, h13, ri, rl, hst, ha, hc, hca, hz, hza, hgt, hw, hd, hcat, Int.toNat_natCast, Nat.mul_one, Nat.zero_add, RR, IA, PA, RA0, RA1, RA2, RA3, RA4, RA5, RA6, RA7, RA8, RA9, RA10, Nat.reduceAdd, Nat.reduceMul, Nat.reduceEqDiff, Nat.reduceLeDiff, Nat.reduceLT, Int.reduceToNat, Int.reduceLT, Int.reduceLE, Int.reduceEq, Int.reduceNeg, Int.reduceAdd, Int.reduceSub, Int.reduceMul, reduceIte] at hq
    have go := fun H h12 h13 => all_loop (iid := iid) (lid := lid) (o := o) hR m (i + 1) (acc ++ (L[i]'hil)) _ _ n q (by omega) (by omega) H h12 h13 (by rw [List.length_append]; omega) (by omega) hq
    obtain ⟨e', nx', g1, g2, acc', g3, g4⟩ := go ⟨hS.e4, hS.e5, hS.e9, hS.e10, hS.ri, hS.rl⟩ rfl rfl
    exact ⟨e', nx', g1, g2, acc', g3, by rw [List.length_append] at g4; omega⟩
theorem in_loop {iid lid a stop k : Nat} {lev : Int} {L : List (List UInt8)} {o : List UInt8} {c : UInt8} {σ : Sto} (hR : VR a stop lev L) (hk : k < o.length) (ho : o.length ≤ 1000) (hcut : (o.take (k + 1)).drop k = [c]) : ∀ (m i : Nat) (b : Bool) (e : Nat → AV) (nx n : Nat) (q : Option (Ex × St)),
    i + m = stop → a < i → VS iid lid a L o σ e → e 14 = N k → e 15 = B b → e 16 = N i → m < n → roundsE (evC II EE (withOpt [] pf) MX (bodyL Tryz.f3 2)) n ⟨e, σ, nx⟩ = q →
    ∃ e' nx', q = some (.exit 4, ⟨e', σ, nx'⟩) ∧ VS iid lid a L o σ e' ∧ e' 15 = B (b || ((L.drop i).take m).contains [c]) ∧ (∀ t, t < 15 ∨ (90 ≤ t ∧ t < 100) → e' t = e t)
  | 0, i, b, e, nx, n, q, him, hai, hS, h14, h15, h16, hn, hq => by
    obtain ⟨n, rfl⟩ : ∃ k, n = k + 1 := ⟨n - 1, by omega⟩
    obtain rfl : i = stop := by omega
    rw [rounds_rd] at hq
    have h4 := hS.e4
    have h9 := hS.e9
    have h10 := hS.e10
    have ri := hS.ri
    have rl := hS.rl
    have sn := hR.sn
    have n1 := hR.n1
    have hst := hR.hst
    have ha := hR.ha
    have hc : ((i : Int) < (L.length : Int)) := by omega
    have hca : ((a : Int) < (L.length : Int)) := by omega
    have hz : (0 : Int) ≤ (i : Int) := by omega
    have hza : (0 : Int) ≤ (a : Int) := by omega
    have hll : ¬ (lev < lev) := by omega
    simp only [bodyL, bodyOf, Tryz.f3, SA, loops, List.nil_append, List.append_nil, List.cons_append, List.getD_cons_zero, List.getD_cons_succ] at hq
    simp only [h4, h9, h10, h16, ri, rl, hst, ha, hc, hca, hz, hza, hll, Int.toNat_natCast, Nat.mul_one, Nat.zero_add, RR, IA, PA, RA0, RA1, RA2, RA3, RA4, RA5, RA6, RA7, RA8, RA9, RA10, Nat.reduceAdd, Nat.reduceMul, Nat.reduceEqDiff, Nat.reduceLeDiff, Nat.reduceLT, Int.reduceToNat, Int.reduceLT, Int.reduceLE, Int.reduceEq, Int.reduceNeg, Int.reduceAdd, Int.reduceSub, Int.reduceMul, reduceIte] at hq
    refine ⟨_, _, hq.symm, ⟨hS.e4, hS.e5, hS.e9, hS.e10, hS.ri, hS.rl⟩, ?_, fun t ht => ?_⟩
    · rw [List.take_zero]
      show e 15 = _
      rw [h15]
      cases b <;> rfl
    · have hN : ∀ k, 100 ≤ k → ¬ (t = k) := fun k hk => by omega
      simp only [hN 114 (by decide), hN 113 (by decide), hN 112 (by decide), hN 111 (by decide), hN 110 (by decide), hN 109 (by decide), hN 108 (by decide), hN 107 (by decide), hN 106 (by decide), hN 105 (by decide), hN 104 (by decide), hN 103 (by decide), hN 102 (by decide), hN 101 (by decide), hN 100 (by decide), if_false]
  | m + 1, i, b, e, nx, n, q, him, hai, hS, h14, h15, h16, hn, hq => by
    obtain ⟨n, rfl⟩ : ∃ k, n = k + 1 := ⟨n - 1, by omega⟩
    rw [rounds_rd] at hq
    have h4 := hS.e4
    have h5 := hS.e5
    have h9 := hS.e9
    have h10 := hS.e10
    have ri := hS.ri
    have rl := hS.rl
    have sn := hR.sn
    have n1 := hR.n1
    have ha := hR.ha
    obtain ⟨lz, hst, hgt⟩ := hR.hin i hai (by omega)
    have hc : ((i : Int) < (L.length : Int)) := by omega
    have hca : ((a : Int) < (L.length : Int)) := by omega
    have hz : (0 : Int) ≤ (i : Int) := by omega
    have hza : (0 : Int) ≤ (a : Int) := by omega
    have hw : IntKind.i64.wrap ((i : Int) + 1) = ((i + 1 : Nat) : Int) := by rw [wrap64 (by omega) (by omega)]; rfl
    have hwk : IntKind.i64.wrap ((k : Int) + 1) = ((k + 1 : Nat) : Int) := by rw [wrap64 (by omega) (by omega)]; rfl
    have hzk : (0 : Int) ≤ (k : Int) := by omega
    have hk1 : ((k : Int) ≤ ((k + 1 : Nat) : Int)) := by omega
    have hk2 : (((k + 1 : Nat) : Int) ≤ (o.length : Int)) := by omega
    have hil : i < L.length := by omega
    have hd : ((strs L).drop i).head? = some (S L[i]) := by
      rw [List.head?_drop, strs_get, List.getElem?_eq_getElem hil]
      rfl
    have htake : (L.drop i).take (m + 1) = L[i] :: (L.drop (i + 1)).take m := by
      rw [List.drop_eq_getElem_cons hil, List.take_succ_cons]
    simp only [bodyL, bodyOf, Tryz.f3, SA, loops, List.nil_append, List.append_nil, List.cons_append, List.getD_cons_zero, List.getD_cons_succ] at hq
    have hfin : ∀ (b2 : Bool) (e2 : Nat → AV) (nx2 : Nat), roundsE (evC II EE (withOpt [] pf) MX (bodyL Tryz.f3 2)) n ⟨e2, σ, nx2⟩ = q → VS iid lid a L o σ e2 → e2 14 = N k → e2 15 = B b2 → e2 16 = N ((i + 1 : Nat) : Int) → b2 = (b || (L[i] == [c])) → (∀ t, t < 15 ∨ (90 ≤ t ∧ t < 100) → e2 t = e t) →
        ∃ e' nx', q = some (.exit 4, ⟨e', σ, nx'⟩) ∧ VS iid lid a L o σ e' ∧ e' 15 = B (b || ((L.drop i).take (m + 1)).contains [c]) ∧ (∀ t, t < 15 ∨ (90 ≤ t ∧ t < 100) → e' t = e t) := by
      intro b2 e2 nx2 g1 g2 g3 g4 g5 g6 g7
      obtain ⟨e', nx', j1, j2, j3, j4⟩ := in_loop hR hk ho hcut m (i + 1) b2 e2 nx2 n q (by omega) (by omega) g2 g3 g4 g5 (by omega) g1
      refine ⟨e', nx', j1, j2, ?_, fun t ht => (j4 t ht).trans (g7 t ht)⟩
      rw [j3, g6, htake, List.contains_cons]
      have hsym : (L[i] == [c]) = ([c] == L[i]) := by rw [Bool.eq_iff_iff, beq_iff_eq, beq_iff_eq]; exact eq_comm
      rw [hsym, Bool.or_assoc]
    cases b
    · simp only [h4, h5, h9, h10, h14, h15, h16, ri, rl, hst, ha, hc, hca, hz, hza, hgt, hw, hwk, hzk, hk1, hk2, hd, hcut, Int.toNat_natCast, Nat.mul_one, Nat.zero_add, RR, IA, PA, RA0, RA1, RA2, RA3, RA4, RA5, RA6, RA7, RA8, RA9, RA10, Nat.reduceAdd, Nat.reduceMul, Nat.reduceEqDiff, Nat.reduceLeDiff, Nat.reduceLT, Int.reduceToNat, Int.reduceLT, Int.reduceLE, Int.reduceEq, Int.reduceNeg, Int.reduceAdd, Int.reduceSub, Int.reduceMul, reduceIte] at hq
      have fin := fun b2 H h14 h15 h16 hb ht => hfin b2 _ _ hq H h14 h15 h16 hb ht
      refine fin _ ⟨hS.e4, hS.e5, hS.e9, hS.e10, hS.ri, hS.rl⟩ h14 rfl rfl (by simp) (fun t ht => ?_)
      have hN : ∀ k, 100 ≤ k → ¬ (t = k) := fun k hk => by omega
      have h15n : ¬ (t = 15) := by omega
      have h16n : ¬ (t = 16) := by omega
      simp only [h15n, h16n, hN 100 (by decide), hN 101 (by decide), hN 102 (by decide), hN 103 (by decide), hN 104 (by decide), hN 105 (by decide), hN 106 (by decide), hN 107 (by decide), hN 108 (by decide), hN 109 (by decide), hN 110 (by decide), hN 111 (by decide), hN 112 (by decide), hN 113 (by decide), hN 114 (by decide), hN 115 (by decide), hN 116 (by decide), hN 117 (by decide), hN 118 (by decide), hN 119 (by decide), hN 120 (by decide), hN 121 (by decide), hN 122 (by decide), hN 123 (by decide), hN 124 (by decide), hN 125 (by decide), hN 126 (by decide), hN 127 (by decide), hN 128 (by decide), hN 129 (by decide), if_false]
    · simp only [h4, h5, h9, h10, h14, h15, h16, ri, rl, hst, ha, hc, hca, hz, hza, hgt, hw, hwk, hzk, hk1, hk2, hd, hcut, Int.toNat_natCast, Nat.mul_one, Nat.zero_add, RR, IA, PA, RA0, RA1, RA2, RA3, RA4, RA5, RA6, RA7, RA8, RA9, RA10, Nat.reduceAdd, Nat.reduceMul, Nat.reduceEqDiff, Nat.reduceLeDiff, Nat.reduceLT, Int.reduceToNat, Int.reduceLT, Int.reduceLE, Int.reduceEq, Int.reduceNeg, Int.reduceAdd, Int.reduceSub, Int.reduceMul, reduceIte] at hq
      have fin := fun b2 H h14 h15 h16 hb ht => hfin b2 _ _ hq H h14 h15 h16 hb ht
      refine fin _ ⟨hS.e4, hS.e5, hS.e9, hS.e10, hS.ri, hS.rl⟩ h14 rfl rfl (by simp) (fun t ht => ?_)
      have hN : ∀ k, 100 ≤ k → ¬ (t = k) := fun k hk => by omega
      have h15n : ¬ (t = 15) := by omega
      have h16n : ¬ (t = 16) := by omega
      simp only [h15n, h16n, hN 100 (by decide), hN 101 (by decide), hN 102 (by decide), hN 103 (by decide), hN 104 (by decide), hN 105 (by decide), hN 106 (by decide), hN 107 (by decide), hN 108 (by decide), hN 109 (by decide), hN 110 (by decide), hN 111 (by decide), hN 112 (by decide), hN 113 (by decide), hN 114 (by decide), hN 115 (by decide), hN 116 (by decide), hN 117 (by decide), hN 118 (by decide), hN 119 (by decide), hN 120 (by decide), hN 121 (by decide), hN 122 (by decide), hN 123 (by decide), hN 124 (by decide), hN 125 (by decide), hN 126 (by decide), hN 127 (by decide), hN 128 (by decide), hN 129 (by decide), if_false]
theorem out_loop {iid lid a stop : Nat} {lev : Int} {L : List (List UInt8)} {o : List UInt8} {σ : Sto} (hR : VR a stop lev L) (ho : o.length ≤ 1000) (hpw : o.Pairwise (· < ·)) (hall : ∀ c ∈ o, ((L.drop (a + 1)).take (stop - (a + 1))).contains [c] = true) : ∀ (m k : Nat) (acc : List UInt8) (e : Nat → AV) (nx n : Nat) (q : Option (Ex × St)),
    k + m = o.length → VS iid lid a L o σ e → e 12 = S acc → e 94 = N o.length → e 95 = N k → m < n → roundsE (evC II EE (withOpt [] pf) MX (bodyL Tryz.f3 1)) n ⟨e, σ, nx⟩ = q →
    ∃ e' nx', q = some (.exit 2, ⟨e', σ, nx'⟩) ∧ VS iid lid a L o σ e' ∧ e' 12 = S acc
  | 0, k, acc, e, nx, n, q, hkm, hS, h12, h94, h95, hn, hq => by
    obtain ⟨n, rfl⟩ : ∃ k, n = k + 1 := ⟨n - 1, by omega⟩
    rw [rounds_rd] at hq
    have hc : ¬ ((k : Int) < (o.length : Int)) := by omega
    simp only [bodyL, bodyOf, Tryz.f3, SA, loops, List.nil_append, List.append_nil, List.cons_append, List.getD_cons_zero, List.getD_cons_succ] at hq
    simp only [h94, h95, hc, RR, IA, PA, RA0, RA1, RA2, RA3, RA4, RA5, RA6, RA7, RA8, RA9, RA10, Nat.reduceAdd, Nat.reduceMul, Nat.reduceEqDiff, Nat.reduceLeDiff, Nat.reduceLT, Int.reduceToNat, Int.reduceLT, Int.reduceLE, Int.reduceEq, Int.reduceNeg, Int.reduceAdd, Int.reduceSub, Int.reduceMul, reduceIte] at hq
    exact ⟨_, _, hq.symm, ⟨hS.e4, hS.e5, hS.e9, hS.e10, hS.ri, hS.rl⟩, h12⟩
  | m + 1, k, acc, e, nx, n, q, hkm, hS, h12, h94, h95, hn, hq => by
    obtain ⟨n, rfl⟩ : ∃ k, n = k + 1 := ⟨n - 1, by omega⟩
    rw [rounds_rd] at hq
    have hko : k < o.length := by omega
    have hc : ((k : Int) < (o.length : Int)) := by omega
    have sn := hR.sn
    have n1 := hR.n1
    have al := hR.al
    have h4 := hS.e4
    have hwa : IntKind.i64.wrap ((a : Int) + 1) = ((a + 1 : Nat) : Int) := by rw [wrap64 (by omega) (by omega)]; rfl
    have hwk : IntKind.i64.wrap ((k : Int) + 1) = ((k + 1 : Nat) : Int) := by rw [wrap64 (by omega) (by omega)]; rfl
    obtain ⟨c, hcut⟩ := take_one_at o k hko
    have hck : o[k] = c := by
      have := congrArg List.head? hcut
      rw [List.head?_drop, List.getElem?_take, if_pos (by omega), List.getElem?_eq_getElem hko] at this
      exact Option.some.inj this
    have hin := hall c (by rw [← hck]; exact List.getElem_mem hko)
    simp only [bodyL, bodyOf, Tryz.f3, SA, loops, List.nil_append, List.append_nil, List.cons_append, List.getD_cons_zero, List.getD_cons_succ] at hq
    simp only [h4, h94, h95, hc, hwa, RR, IA, PA, RA0, RA1, RA2, RA3, RA4, RA5, RA6, RA7, RA8, RA9, RA10, Nat.reduceAdd, Nat.reduceMul, Nat.reduceEqDiff, Nat.reduceLeDiff, Nat.reduceLT, Int.reduceToNat, Int.reduceLT, Int.reduceLE, Int.reduceEq, Int.reduceNeg, Int.reduceAdd, Int.reduceSub, Int.reduceMul, reduceIte] at hq
    generalize hqq : roundsE _ MX _ = q2 at hq
    have hil := fun H h14 h15 h16 => in_loop (iid := iid) (lid := lid) (k := k) hR hko ho hcut (stop - (a + 1)) (a + 1) false _ _ MX q2 (by omega) (by omega) H h14 h15 h16 (by
      have : (1000000 : Nat) < MX := by decide
      omega) hqq
    obtain ⟨e', nx', rfl, j1, j2, j3⟩ := hil ⟨hS.e4, hS.e5, hS.e9, hS.e10, hS.ri, hS.rl⟩ rfl rfl rfl
    rw [hin] at j2
    have j14 : e' 14 = N k := j3 14 (by omega)
    have j94 : e' 94 = N o.length := (j3 94 (by omega)).trans h94
    have j95 : e' 95 = N k := (j3 95 (by omega)).trans h95
    have j12 : e' 12 = S acc := (j3 12 (by omega)).trans h12
    have j5 := j1.e5
    simp only [Bool.or_true] at j2
    cases k with
    | zero =>
      have hz : ¬ ((0 : Int) < ((0 : Nat) : Int)) := by decide
      simp only [j14, j94, j95, j2, j5, hwk, hz, RR, IA, PA, RA0, RA1, RA2, RA3, RA4, RA5, RA6, RA7, RA8, RA9, RA10, Nat.reduceAdd, Nat.reduceMul, Nat.reduceEqDiff, Nat.reduceLeDiff, Nat.reduceLT, Int.reduceToNat, Int.reduceLT, Int.reduceLE, Int.reduceEq, Int.reduceNeg, Int.reduceAdd, Int.reduceSub, Int.reduceMul, reduceIte] at hq
      have go := fun H h12 h94 h95 => out_loop (iid := iid) (lid := lid) hR ho hpw hall m (0 + 1) acc _ _ n q (by omega) H h12 h94 h95 (by omega) hq
      exact go ⟨j1.e4, j1.e5, j1.e9, j1.e10, j1.ri, j1.rl⟩ j12 j94 rfl
    | succ k =>
      have hz : ((0 : Int) < ((k + 1 : Nat) : Int)) := by omega
      have hwm : IntKind.i64.wrap (((k + 1 : Nat) : Int) - 1) = (k : Int) := by rw [wrap64 (by omega) (by omega)]; omega
      have hk1 : o[k]? = some o[k] := List.getElem?_eq_getElem (by omega)
      have hk2 : o[k + 1]? = some o[k + 1] := List.getElem?_eq_getElem hko
      have hzk : (0 : Int) ≤ (k : Int) := by omega
      have hzk2 : (0 : Int) ≤ ((k + 1 : Nat) : Int) := by omega
      have hlt : o[k] < o[k + 1] := List.pairwise_iff_getElem.1 hpw k (k + 1) (by omega) hko (by omega)
      have hlt2 : ¬ ((o[k + 1].toNat : Int) ≤ (o[k].toNat : Int)) := by
        have := UInt8.lt_iff_toNat_lt.1 hlt
        omega
      have htn : ((k : Int) + 1).toNat = k + 1 := by omega
      simp only [hk1, hk2, hzk, hzk2, hlt2, htn, Int.toNat_natCast, j14, j94, j95, j2, j5, hwk, hwm, hz, RR, IA, PA, RA0, RA1, RA2, RA3, RA4, RA5, RA6, RA7, RA8, RA9, RA10, Nat.reduceAdd, Nat.reduceMul, Nat.reduceEqDiff, Nat.reduceLeDiff, Nat.reduceLT, Int.reduceToNat, Int.reduceLT, Int.reduceLE, Int.reduceEq, Int.reduceNeg, Int.reduceAdd, Int.reduceSub, Int.reduceMul, reduceIte] at hq
      have go := fun H h12 h94 h95 => out_loop (iid := iid) (lid := lid) hR ho hpw hall m ((k + 1) + 1) acc _ _ n q (by omega) H h12 h94 h95 (by omega) hq
      exact go ⟨j1.e4, j1.e5, j1.e9, j1.e10, j1.ri, j1.rl⟩ j12 j94 rfl
theorem T_lawFnVars : TT 3 = some (Tryz.f3, bodyOf Tryz.f3) := by kernel_rfl
theorem adopt_ob4 (σ : Sto) (key : Nat) {E sz n : Nat} {cs : List AV} (b : Bool) (h : closedL cs = true) : adopt σ key (.t [.o E sz n cs, B b]) = some (.t [.w key 0 n, B b], upd σ key (some (.row E sz n cs))) := adopt_t2 _ _ (adopt1_o h) rfl
theorem adopt_sn4 (σ : Sto) (key : Nat) (s : List UInt8) (n : Int) : adopt σ key (.t [S s, N n]) = some (.t [S s, N n], σ) := adopt_two rfl rfl
/-- The range of a loop that begins at a. -/
theorem vr_of {code : List UInt8} {t : T} {hs ls : List Nat} (hsp : specB code = some (t, hs, ls)) {a : Nat} {z : List UInt8} {r : List (List UInt8)} (hd : (cutL 32 code).drop a = z :: r) (hb : begM z = true) :
    ∃ lev, VR a (a + 1 + clo 1 r) lev (cutL 32 code) ∧ 0 < clo 1 r := by
  obtain ⟨_, hw, hcut, hrun, hrd⟩ := spec_impl hsp
  have hrun' : runP (cutL 32 code) ⟨[], []⟩ = some (⟨[t], []⟩, hs, ls) := by rw [hcut]; exact hrun
  obtain ⟨k1, _⟩ := clo_ok hrun' hd hb
  have hpos := clo_pos hrun' hd hb (fun e => by rw [e] at k1; simp at k1)
  have hal : a < (cutL 32 code).length := by
    have := congrArg List.length hd
    simp only [List.length_drop, List.length_cons] at this
    omega
  have hlen : r.length + a + 1 = (cutL 32 code).length := by
    have := congrArg List.length hd
    simp only [List.length_drop, List.length_cons] at this
    omega
  have hd2 : (cutL 32 code).drop (a + 1) = r := by rw [← List.drop_drop, hd]; rfl
  have hg := lsI_get (cutL 32 code) 0 a z r hd
  rw [beg_end hb, if_neg (by decide)] at hg
  have hst := sum_take hd
  have hdz : dL z = 1 := by unfold dL; rw [if_pos hb]
  obtain ⟨r1, r2⟩ := lv_range (lev := 0 + sumL ((cutL 32 code).take a)) r (a + 1) 1 hd2 (Int.le_refl _) (by omega)
  have h80 := rdT_wf hrd
  refine ⟨0 + sumL ((cutL 32 code).take a), ⟨fun i hi hi2 => ?_, ?_, ?_, by omega, by omega, ?_, ?_, ?_⟩, hpos⟩
  · obtain ⟨lz, g1, g2⟩ := r1 (i - (a + 1)) (by omega)
    rw [show a + 1 + (i - (a + 1)) = i by omega] at g1
    exact ⟨lz, by rw [ints_drop, ints_head, g1]; rfl, g2⟩
  · rw [ints_drop, ints_head, r2 k1]
    rfl
  · rw [ints_drop, ints_head, hg]
    rfl
  · rw [hcut]
    omega
  · rw [hcut]
    exact list_short t
  · rw [hcut]
    exact list_pos t
set_option maxHeartbeats 16000000 in
theorem fnVars_law (l : List UInt8) : EE 3 [bytesV l] = some (B true) := by
  refine EE_plain T_lawFnVars (by decide) (Nat.le_of_ble_eq_true rfl) (bytes_cl l) ?_
  rw [show opt 3 = [] from rfl]
  simp only [bodyOf, Tryz.f3, SA]
  by_cases hbig : (1048576 : Int) < (l.length : Int)
  · simp only [bytesV_eq, hbig, RR, IA, PA, RA0, RA1, RA2, RA3, RA4, RA5, RA6, RA7, RA8, RA9, RA10, Nat.reduceAdd, Nat.reduceMul, Nat.reduceEqDiff, Nat.reduceLeDiff, Nat.reduceLT, Int.reduceToNat, Int.reduceLT, Int.reduceLE, Int.reduceEq, Int.reduceNeg, Int.reduceAdd, Int.reduceSub, Int.reduceMul, reduceIte]
  obtain ⟨t, at_, ht, hl, hwf⟩ := drawVars_ev l
  rw [bytesV_eq] at ht
  have hcb := cbs_closed l
  have h := implVarsAt_ev t at_ (by omega) hwf
  have k := specVarsAt_ev t at_ (by omega) hwf
  have hi := implInstructionsOf_ev t (by omega)
  have hlv := implLevelsAt_ev t (by omega)
  cases ho : (if (specB t).isSome = true then varsM (cutL 32 t) at_ else none) with
  | none =>
    rw [ho] at h k
    simp only at h k
    simp only [bytesV_eq, hbig, hcb, ht, h, k, adopt_sn4, adopt_sb2, RR, IA, PA, RA0, RA1, RA2, RA3, RA4, RA5, RA6, RA7, RA8, RA9, RA10, Nat.reduceAdd, Nat.reduceMul, Nat.reduceEqDiff, Nat.reduceLeDiff, Nat.reduceLT, Int.reduceToNat, Int.reduceLT, Int.reduceLE, Int.reduceEq, Int.reduceNeg, Int.reduceAdd, Int.reduceSub, Int.reduceMul, reduceIte]
  | some o =>
    rw [ho] at h k
    simp only at h k
    cases hsp : specB t with
    | none =>
      rw [hsp] at ho
      simp only [Option.isSome_none, Bool.false_eq_true, if_false] at ho
      cases ho
    | some w =>
      obtain ⟨x, hs, ls⟩ := w
      rw [hsp] at ho hi hlv
      simp only [Option.isSome_some, if_true] at ho hi hlv
      unfold varsM at ho
      split at ho
      · cases ho
      rename_i hneg
      obtain ⟨a, rfl⟩ : ∃ a : Nat, at_ = (a : Int) := ⟨at_.toNat, by omega⟩
      rw [Int.toNat_natCast] at ho
      split at ho
      · cases ho
      rename_i z r hd
      split at ho
      case isFalse => cases ho
      rename_i hb
      obtain ⟨lev, hR, hpos⟩ := vr_of hsp hd hb
      obtain ⟨_, hw, hcut, hrun, hrd⟩ := spec_impl hsp
      obtain ⟨n1, n2⟩ := runP_n hrun
      have hls := (runP_lists hrun).2
      rw [← hcut] at hls n2
      have e2 : ints (lsI 0 (cutL 32 t)) = nats ls := by
        show ints (lsI (([] : List (UInt8 × UInt8 × Nat)).length : Int) (cutL 32 t)) = _
        rw [← hls]
        simp [ints, nats]
      rw [← e2, n2] at hlv
      have c2 := ints_closed (lsI 0 (cutL 32 t))
      have hov : o = V7b.filter fun c => (z :: r.take (clo 1 r)).contains [c] := by
        rw [← vars_bytes fun v => (z :: r.take (clo 1 r)).contains v]
        exact (Option.some.inj ho).symm
      have hpw : o.Pairwise (· < ·) := by rw [hov]; exact v7b_pw.filter _
      have hol : o.length ≤ 7 := by rw [hov]; exact Nat.le_trans (List.length_filter_le _ _) (by decide)
      have hzl : z.length = 2 := by
        unfold begM at hb
        split at hb
        · rfl
        · cases hb
      have hd2 : (cutL 32 t).drop (a + 1) = r := by rw [← List.drop_drop, hd]; rfl
      have hall : ∀ c ∈ o, (((cutL 32 t).drop (a + 1)).take (a + 1 + clo 1 r - (a + 1))).contains [c] = true := by
        intro c hc
        rw [hov, List.mem_filter, List.contains_cons] at hc
        have hne : ([c] == z) = false := by
          rw [beq_eq_false_iff_ne]
          intro e
          rw [← e] at hzl
          simp at hzl
        rw [hne, Bool.false_or] at hc
        rw [hd2, show a + 1 + clo 1 r - (a + 1) = clo 1 r by omega]
        exact hc.2
      have hsn := hR.sn
      have hn1 := hR.n1
      have hwa : IntKind.i64.wrap ((a : Int) + 1) = ((a + 1 : Nat) : Int) := by rw [wrap64 (by omega) (by omega)]; rfl
      simp only [bytesV_eq, hbig, hcb, ht, h, k, hi, hlv, c2, strs_closed, hwa, adopt_sn4, adopt_sb2, adopt_ob4 _ _ _ c2, RR, IA, PA, RA0, RA1, RA2, RA3, RA4, RA5, RA6, RA7, RA8, RA9, RA10, Nat.reduceAdd, Nat.reduceMul, Nat.reduceEqDiff, Nat.reduceLeDiff, Nat.reduceLT, Int.reduceToNat, Int.reduceLT, Int.reduceLE, Int.reduceEq, Int.reduceNeg, Int.reduceAdd, Int.reduceSub, Int.reduceMul, reduceIte]
      generalize hq0 : roundsE _ MX _ = q0
      have hlp := fun iid lid H h12 h13 => all_loop (iid := iid) (lid := lid) (o := o) hR (clo 1 r) (a + 1) ([] : List UInt8) _ _ MX q0 (by omega) (by omega) H h12 h13 (by simp) (by
        have : (1000000 : Nat) < MX := by decide
        omega) hq0
      obtain ⟨e', nx', rfl, hS, acc', hacc, hal⟩ := hlp _ _ ⟨rfl, rfl, rfl, rfl, by simp [upd], by simp [upd]⟩ rfl rfl
      have h5 := hS.e5
      simp only [hacc, h5, RR, IA, PA, RA0, RA1, RA2, RA3, RA4, RA5, RA6, RA7, RA8, RA9, RA10, Nat.reduceAdd, Nat.reduceMul, Nat.reduceEqDiff, Nat.reduceLeDiff, Nat.reduceLT, Int.reduceToNat, Int.reduceLT, Int.reduceLE, Int.reduceEq, Int.reduceNeg, Int.reduceAdd, Int.reduceSub, Int.reduceMul, reduceIte]
      generalize hq1 : roundsE _ MX _ = q1
      have hlp2 := fun iid lid H h12 h94 h95 => out_loop (iid := iid) (lid := lid) hR (by omega) hpw hall o.length 0 acc' _ _ MX q1 (by omega) H h12 h94 h95 (by
        have : (1000000 : Nat) < MX := by decide
        omega) hq1
      obtain ⟨e2, nx2, rfl, hS2, hacc2⟩ := hlp2 _ _ ⟨hS.e4, hS.e5, hS.e9, hS.e10, hS.ri, hS.rl⟩ hacc rfl rfl
      have h4 := hS2.e4
      have h9 := hS2.e9
      have ri := hS2.ri
      have hz : (0 : Int) ≤ (a : Int) := by omega
      have hca : ((a : Int) < ((cutL 32 t).length : Int)) := by omega
      have hda : ((strs (cutL 32 t)).drop a).head? = some (S z) := by
        rw [strs_drop, hd]
        rfl
      have hlp0 : (0 : Int) < (acc'.length : Int) := by omega
      have hz2 : ((z.length : Int) = 2) := by omega
      simp only [h4, h9, ri, hz, hca, hda, hlp0, hz2, hacc2, Int.toNat_natCast, Nat.mul_one, Nat.zero_add, RR, IA, PA, RA0, RA1, RA2, RA3, RA4, RA5, RA6, RA7, RA8, RA9, RA10, Nat.reduceAdd, Nat.reduceMul, Nat.reduceEqDiff, Nat.reduceLeDiff, Nat.reduceLT, Int.reduceToNat, Int.reduceLT, Int.reduceLE, Int.reduceEq, Int.reduceNeg, Int.reduceAdd, Int.reduceSub, Int.reduceMul, reduceIte]
end
end Go.Proofs.YtegbkihgnofkfaaGreatDoor.Ev
