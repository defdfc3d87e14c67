/-
Texts Td to Td of the work.
-/
import Derived.Test.YtegbkihgnofkfaaGreatDoorZTc
/-
Reading a term: the reference's reader as a function of the place, and that its code gives it.
-/
namespace Go.Proofs.YtegbkihgnofkfaaGreatDoor.Ev
section
set_option linter.unusedVariables false
set_option linter.unusedSimpArgs false
open Go Go.RowKit
set_option linter.unusedVariables false
set_option linter.unusedSimpArgs false

/-- The cells of no term. -/
def zc : List AV := [U 0, U 0, .s true 0 []]
def nodeM (text : List UInt8) : Nat → Nat → Bool → List AV × Nat × Bool
  | 0, i, _ => (zc, i, true)
  | n + 1, i, b =>
    let q := nxM text i b
    let part : Nat → Bool → List AV × Nat × Bool := fun i b => if b = true then (zc, i, true) else nodeM text n i false
    if isDig q.1 = true then ([U 48, U q.1, .s true 0 []], q.2)
    else if isVar q.1 = true then ([U 97, U q.1, .s true 0 []], q.2)
    else if isOne q.1 = true then ([U q.1, U 0, .s true 1 (part q.2.1 q.2.2).1], (part q.2.1 q.2.2).2)
    else if q.1 = 40 then
      let x := part q.2.1 q.2.2
      let g := nxM text x.2.1 x.2.2
      let y := part g.2.1 (g.2.2 || !isTwo g.1)
      ([U g.1, U 0, .s true 2 (x.1 ++ y.1)], if y.2.2 = true then y.2 else isM text y.2.1 false 41)
    else if q.1 = 91 ∨ q.1 = 123 then
      let g := nxM text q.2.1 q.2.2
      let c1 := isM text g.2.1 (g.2.2 || !isLV g.1) 58
      let x := part c1.1 c1.2
      let c2 := isM text x.2.1 x.2.2 62
      let y := part c2.1 c2.2
      ([U q.1, U g.1, .s true 2 (x.1 ++ y.1)], if y.2.2 = true then y.2 else isM text y.2.1 false (q.1 + 2))
    else (zc, q.2.1, true)
def partM (text : List UInt8) (n i : Nat) (b : Bool) : List AV × Nat × Bool := if b = true then (zc, i, true) else nodeM text n i false

theorem nodeM_succ (text : List UInt8) (n i : Nat) (b : Bool) : nodeM text (n + 1) i b =
    (let q := nxM text i b
    if isDig q.1 = true then ([U 48, U q.1, .s true 0 []], q.2)
    else if isVar q.1 = true then ([U 97, U q.1, .s true 0 []], q.2)
    else if isOne q.1 = true then ([U q.1, U 0, .s true 1 (partM text n q.2.1 q.2.2).1], (partM text n q.2.1 q.2.2).2)
    else if q.1 = 40 then
      let x := partM text n q.2.1 q.2.2
      let g := nxM text x.2.1 x.2.2
      let y := partM text n g.2.1 (g.2.2 || !isTwo g.1)
      ([U g.1, U 0, .s true 2 (x.1 ++ y.1)], if y.2.2 = true then y.2 else isM text y.2.1 false 41)
    else if q.1 = 91 ∨ q.1 = 123 then
      let g := nxM text q.2.1 q.2.2
      let c1 := isM text g.2.1 (g.2.2 || !isLV g.1) 58
      let x := partM text n c1.1 c1.2
      let c2 := isM text x.2.1 x.2.2 62
      let y := partM text n c2.1 c2.2
      ([U q.1, U g.1, .s true 2 (x.1 ++ y.1)], if y.2.2 = true then y.2 else isM text y.2.1 false (q.1 + 2))
    else (zc, q.2.1, true)) := rfl

/-- What a node's cells must be. -/
structure NodeOk (z : List AV) : Prop where
  len : z.length = 3
  cl : closedL z = true
  lf : z.all leafOk = true
theorem isM_le {text : List UInt8} {i : Nat} (b : Bool) (c : UInt8) (hi : i ≤ text.length) : i ≤ (isM text i b c).1 ∧ (isM text i b c).1 ≤ text.length := nxM_le b hi
theorem nodeM_ok (text : List UInt8) : ∀ (n i : Nat) (b : Bool), i ≤ text.length → NodeOk (nodeM text n i b).1 ∧ i ≤ (nodeM text n i b).2.1 ∧ (nodeM text n i b).2.1 ≤ text.length := by
  intro n
  induction n with
  | zero => intro i b hi; exact ⟨⟨rfl, rfl, rfl⟩, Nat.le_refl _, hi⟩
  | succ n ih =>
    intro i b hi
    have hp : ∀ (i : Nat) (b : Bool), i ≤ text.length → NodeOk (if b = true then (zc, i, true) else nodeM text n i false).1 ∧ i ≤ (if b = true then (zc, i, true) else nodeM text n i false).2.1 ∧ (if b = true then (zc, i, true) else nodeM text n i false).2.1 ≤ text.length := by
      intro i b hi
      cases b with
      | true => exact ⟨⟨rfl, rfl, rfl⟩, Nat.le_refl _, hi⟩
      | false => exact ih i false hi
    have hq := nxM_le b hi
    simp only [nodeM]
    split
    · exact ⟨⟨rfl, rfl, rfl⟩, hq⟩
    split
    · exact ⟨⟨rfl, rfl, rfl⟩, hq⟩
    split
    · have h1 := hp _ (nxM text i b).2.2 hq.2
      exact ⟨⟨rfl, by simp only [closedL, closed, h1.1.cl, Bool.and_self], rfl⟩, Nat.le_trans hq.1 h1.2.1, h1.2.2⟩
    split
    · have h1 := hp _ (nxM text i b).2.2 hq.2
      have h2 := nxM_le (i := (if (nxM text i b).2.2 = true then (zc, (nxM text i b).2.1, true) else nodeM text n (nxM text i b).2.1 false).2.1) (if (nxM text i b).2.2 = true then (zc, (nxM text i b).2.1, true) else nodeM text n (nxM text i b).2.1 false).2.2 h1.2.2
      generalize (if (nxM text i b).2.2 = true then (zc, (nxM text i b).2.1, true) else nodeM text n (nxM text i b).2.1 false) = x at *
      generalize nxM text x.2.1 x.2.2 = g at *
      have h3 := hp g.2.1 (g.2.2 || !isTwo g.1) h2.2
      generalize (if (g.2.2 || !isTwo g.1) = true then (zc, g.2.1, true) else nodeM text n g.2.1 false) = y at *
      have h4 := isM_le (text := text) false 41 h3.2.2
      refine ⟨⟨rfl, by simp only [closedL, closed, closedL_append, h1.1.cl, h3.1.cl, Bool.and_self], rfl⟩, ?_⟩
      split
      · exact ⟨by show i ≤ y.2.1; omega, h3.2.2⟩
      · exact ⟨by show i ≤ (isM text y.2.1 false 41).1; omega, h4.2⟩
    split
    · have h2 := nxM_le (nxM text i b).2.2 hq.2
      generalize (nxM text (nxM text i b).2.1 (nxM text i b).2.2) = g at *
      have h3 := isM_le (text := text) (g.2.2 || !isLV g.1) 58 h2.2
      generalize isM text g.2.1 (g.2.2 || !isLV g.1) 58 = c1 at *
      have h4 := hp c1.1 c1.2 h3.2
      generalize (if c1.2 = true then (zc, c1.1, true) else nodeM text n c1.1 false) = x at *
      have h5 := isM_le (text := text) x.2.2 62 h4.2.2
      generalize isM text x.2.1 x.2.2 62 = c2 at *
      have h6 := hp c2.1 c2.2 h5.2
      generalize (if c2.2 = true then (zc, c2.1, true) else nodeM text n c2.1 false) = y at *
      have h7 := isM_le (text := text) false ((nxM text i b).1 + 2) h6.2.2
      refine ⟨⟨rfl, by simp only [closedL, closed, closedL_append, h4.1.cl, h6.1.cl, Bool.and_self], rfl⟩, ?_⟩
      split
      · exact ⟨by show i ≤ y.2.1; omega, h6.2.2⟩
      · exact ⟨by show i ≤ (isM text y.2.1 false ((nxM text i b).1 + 2)).1; omega, h7.2⟩
    · exact ⟨⟨rfl, rfl, rfl⟩, hq⟩
theorem partM_ok (text : List UInt8) (n i : Nat) (b : Bool) (hi : i ≤ text.length) : NodeOk (partM text n i b).1 ∧ i ≤ (partM text n i b).2.1 ∧ (partM text n i b).2.1 ≤ text.length := by
  unfold partM
  split
  · exact ⟨⟨rfl, rfl, rfl⟩, Nat.le_refl _, hi⟩
  · exact nodeM_ok text n i false hi

/-! ### laws of bytes -/
theorem in_dig (c : UInt8) : decide ((48 : Int) ≤ (c.toNat : Int) ∧ (c.toNat : Int) ≤ 57) = isDig c := by
  rw [Bool.eq_iff_iff]
  simp only [isDig, decide_eq_true_iff, Bool.and_eq_true]
  omega
theorem in_lv (c : UInt8) : decide ((118 : Int) ≤ (c.toNat : Int) ∧ (c.toNat : Int) ≤ 122) = isLV c := by
  rw [Bool.eq_iff_iff]
  simp only [isLV, decide_eq_true_iff, Bool.and_eq_true]
  omega
theorem eq_nat (c d : UInt8) : decide ((c.toNat : Int) = (d.toNat : Int)) = decide (c = d) := by
  rw [decide_eq_decide, ← UInt8.toNat_inj]
  omega
theorem wrap_u8 (c : UInt8) : IntKind.i64.wrap (c.toNat : Int) = (c.toNat : Int) := by
  have := u8_lt c
  exact wrap64 (by omega) (by omega)
theorem isVar_cases (c : UInt8) : isVar c = (decide (c = 97) || (decide (c = 98) || isLV c)) := by
  rw [Bool.eq_iff_iff]
  simp only [isVar, isLV, List.contains_cons, List.contains_nil, Bool.or_eq_true, Bool.and_eq_true, decide_eq_true_iff, beq_iff_eq, Bool.or_false, ← UInt8.toNat_inj]
  show c.toNat = 97 ∨ c.toNat = 98 ∨ c.toNat = 118 ∨ c.toNat = 119 ∨ c.toNat = 120 ∨ c.toNat = 121 ∨ c.toNat = 122 ↔ c.toNat = 97 ∨ c.toNat = 98 ∨ _
  omega
theorem findFrom_has (c : UInt8) : ∀ (l : List UInt8) (i : Nat), decide ((0 : Int) ≤ findFrom c i l) = l.contains c
  | [], i => rfl
  | x :: l, i => by
    have ih := findFrom_has c l (i + 1)
    by_cases h : x = c
    · have e : findFrom c i (x :: l) = (i : Int) := by rw [findFrom, if_pos h]
      subst h
      refine (congrArg (fun z => decide ((0 : Int) ≤ z)) e).trans ?_
      simp
    · have h2 : (c == x) = false := by simpa using fun e => h e.symm
      have e : findFrom c i (x :: l) = findFrom c (i + 1) l := by rw [findFrom, if_neg h]
      refine (congrArg (fun z => decide ((0 : Int) ≤ z)) e).trans ?_
      rw [List.contains_cons, h2, Bool.false_or]
      exact ih
theorem findFrom_hasnt (c : UInt8) (l : List UInt8) (i : Nat) : decide (findFrom c i l < (0 : Int)) = !l.contains c := by
  rw [← findFrom_has c l i, ← decide_not, decide_eq_decide]
  omega

theorem T_part : TT 85 = some (Tryz.f85, bodyOf Tryz.f85) := by kernel_rfl
theorem part_ev (text : List UInt8) (n : Nat) (hl : text.length < 4611686018427387904)
    (hn : ∀ (i : Nat), i ≤ text.length → text.length - i < n → EE 57 [rdr text i false] = some (.t [.a (nodeM text n i false).1, .t [rdr text (nodeM text n i false).2.1 (nodeM text n i false).2.2]]))
    (i : Nat) (b : Bool) (hi : i ≤ text.length) (hin : b = false → text.length - i < n) :
    EE 85 [rdr text i b] = some (.t [.a (partM text n i b).1, .t [rdr text (partM text n i b).2.1 (partM text n i b).2.2]]) := by
  refine EE_lend T_part (by decide) (Nat.le_of_ble_eq_true rfl) rfl rfl ?_
  rw [show opt 85 = [] from rfl]
  simp only [bodyOf, Tryz.f85, SA]
  cases b with
  | true =>
    simp only [partM, if_true, IA, PA, RA0, RA1, RA2, RA3, RA4, RA5, RA6, RA7, RA8, RA9, RA10, Nat.reduceAdd, Nat.reduceMul, Nat.reduceEqDiff, Nat.reduceLeDiff, Nat.reduceLT, Int.reduceToNat, Int.reduceLT, Int.reduceLE, Int.reduceEq, Int.reduceNeg, Int.reduceAdd, Int.reduceSub, Int.reduceMul, reduceIte]
    refine out_one (x := .a zc) ?_ rfl (by rfl) rfl rfl
    simp only [IA, PA, RA0, RA1, RA2, RA3, RA4, RA5, RA6, RA7, RA8, RA9, RA10, Nat.reduceAdd, Nat.reduceMul, Nat.reduceEqDiff, Nat.reduceLeDiff, Nat.reduceLT, Int.reduceToNat, Int.reduceLT, Int.reduceLE, Int.reduceEq, Int.reduceNeg, Int.reduceAdd, Int.reduceSub, Int.reduceMul, reduceIte]
    rfl
  | false =>
    have h := hn i hi (hin rfl)
    have hok := (nodeM_ok text n i false hi).1
    simp only [IA, PA, RA0, RA1, RA2, RA3, RA4, RA5, RA6, RA7, RA8, RA9, RA10, Nat.reduceAdd, Nat.reduceMul, Nat.reduceEqDiff, Nat.reduceLeDiff, Nat.reduceLT, Int.reduceToNat, Int.reduceLT, Int.reduceLE, Int.reduceEq, Int.reduceNeg, Int.reduceAdd, Int.reduceSub, Int.reduceMul, reduceIte]
    simp only [partM, Bool.false_eq_true, if_false]
    generalize nodeM text n i false = q at *
    obtain ⟨z, i', b'⟩ := q
    obtain ⟨z0, z1, z2, rfl⟩ : ∃ z0 z1 z2, z = [z0, z1, z2] := by
      have := hok.len
      match z, this with
      | [z0, z1, z2], _ => exact ⟨_, _, _, rfl⟩
    have hlf := hok.lf
    rw [call_ob_v (by rfl) (by rfl) rfl rfl h rfl hok.cl (show 1 ≤ 4 by decide)]
    have hlf2 : leafOk z0 = true ∧ leafOk z1 = true ∧ leafOk z2 = true := by simpa [List.all_cons] using hlf
    simp only [hlf2.1, hlf2.2.1, hlf2.2.2, IA, PA, RA0, RA1, RA2, RA3, RA4, RA5, RA6, RA7, RA8, RA9, RA10, Nat.reduceAdd, Nat.reduceMul, Nat.reduceEqDiff, Nat.reduceLeDiff, Nat.reduceLT, Int.reduceToNat, Int.reduceLT, Int.reduceLE, Int.reduceEq, Int.reduceNeg, Int.reduceAdd, Int.reduceSub, Int.reduceMul, reduceIte]
    refine out_one (x := .a [z0, z1, z2]) ?_ hok.cl (by rfl) rfl rfl
    simp only [IA, PA, RA0, RA1, RA2, RA3, RA4, RA5, RA6, RA7, RA8, RA9, RA10, Nat.reduceAdd, Nat.reduceMul, Nat.reduceEqDiff, Nat.reduceLeDiff, Nat.reduceLT, Int.reduceToNat, Int.reduceLT, Int.reduceLE, Int.reduceEq, Int.reduceNeg, Int.reduceAdd, Int.reduceSub, Int.reduceMul, reduceIte]

theorem T_node : TT 57 = some (Tryz.f57, bodyOf Tryz.f57) := by kernel_rfl
set_option maxHeartbeats 8000000 in
theorem node_ev (text : List UInt8) (hl : text.length < 4611686018427387904) : ∀ (n i : Nat), i ≤ text.length → text.length - i < n →
    EE 57 [rdr text i false] = some (.t [.a (nodeM text n i false).1, .t [rdr text (nodeM text n i false).2.1 (nodeM text n i false).2.2]]) := by
  intro n
  induction n with
  | zero => intro i _ h; omega
  | succ n ih =>
    intro i hi hn
    have hpart : ∀ (j : Nat) (b : Bool), j ≤ text.length → (b = false → i < j) → EE 85 [rdr text j b] = some (.t [.a (partM text n j b).1, .t [rdr text (partM text n j b).2.1 (partM text n j b).2.2]]) :=
      fun j b hj hb => part_ev text n hl ih j b hj fun e => by have := hb e; omega
    refine EE_lend T_node (by decide) (Nat.le_of_ble_eq_true rfl) rfl rfl ?_
    rw [show opt 57 = [] from rfl]
    simp only [bodyOf, Tryz.f57, SA]
    simp only [IA, PA, RA0, RA1, RA2, RA3, RA4, RA5, RA6, RA7, RA8, RA9, RA10, Nat.reduceAdd, Nat.reduceMul, Nat.reduceEqDiff, Nat.reduceLeDiff, Nat.reduceLT, Int.reduceToNat, Int.reduceLT, Int.reduceLE, Int.reduceEq, Int.reduceNeg, Int.reduceAdd, Int.reduceSub, Int.reduceMul, reduceIte]
    rw [call_ob_v (by rfl) (by rfl) rfl rfl (next_ev text i false hi hl) rfl rfl (show 1 ≤ 4 by decide)]
    have hq1 := nxM_le false hi
    have hnone : text[i]? = none → (nxM text i false).1 = 0 := fun h => by rw [nxM_none false h]
    have hsome : (nxM text i false).1 ≠ 0 → i < (nxM text i false).2.1 ∧ (nxM text i false).2.2 = false := fun h => by
      cases hc : text[i]? with
      | none => exact absurd (hnone hc) h
      | some c => rw [nxM_some false hc]; exact ⟨Nat.lt_succ_self i, rfl⟩
    rw [nodeM_succ]
    generalize nxM text i false = q at hq1 hnone hsome ⊢
    obtain ⟨c, i1, b1⟩ := q
    simp only at hq1 hnone hsome ⊢
    by_cases h1 : isDig c = true
    · simp only [l1In_ev, in_dig, wrap_u8, h1, IA, PA, RA0, RA1, RA2, RA3, RA4, RA5, RA6, RA7, RA8, RA9, RA10, Nat.reduceAdd, Nat.reduceMul, Nat.reduceEqDiff, Nat.reduceLeDiff, Nat.reduceLT, Int.reduceToNat, Int.reduceLT, Int.reduceLE, Int.reduceEq, Int.reduceNeg, Int.reduceAdd, Int.reduceSub, Int.reduceMul, reduceIte]
      refine out_one (x := .a [U 48, U c, .s true 0 []]) ?_ rfl (by rfl) rfl rfl
      simp only [IA, PA, RA0, RA1, RA2, RA3, RA4, RA5, RA6, RA7, RA8, RA9, RA10, Nat.reduceAdd, Nat.reduceMul, Nat.reduceEqDiff, Nat.reduceLeDiff, Nat.reduceLT, Int.reduceToNat, Int.reduceLT, Int.reduceLE, Int.reduceEq, Int.reduceNeg, Int.reduceAdd, Int.reduceSub, Int.reduceMul, reduceIte]
      rfl
    have h1 : isDig c = false := by simpa using h1
    have e97 : decide ((c.toNat : Int) = 97) = decide (c = 97) := eq_nat c 97
    have e98 : decide ((c.toNat : Int) = 98) = decide (c = 98) := eq_nat c 98
    have e40 : decide ((c.toNat : Int) = 40) = decide (c = 40) := eq_nat c 40
    have e91 : decide ((c.toNat : Int) = 91) = decide (c = 91) := eq_nat c 91
    have e123 : decide ((c.toNat : Int) = 123) = decide (c = 123) := eq_nat c 123
    by_cases h2 : isVar c = true
    · have hv := h2
      rw [isVar_cases] at hv
      generalize hx : decide (c = 97) = x at hv
      generalize hy : decide (c = 98) = y at hv
      generalize hz : isLV c = z at hv
      cases x <;> cases y <;> cases z <;> first
        | (exact absurd hv (by decide))
        | (simp only [l1In_ev, in_dig, in_lv, wrap_u8, e97, e98, hx, hy, hz, h1, h2, IA, PA, RA0, RA1, RA2, RA3, RA4, RA5, RA6, RA7, RA8, RA9, RA10, Nat.reduceAdd, Nat.reduceMul, Nat.reduceEqDiff, Nat.reduceLeDiff, Nat.reduceLT, Int.reduceToNat, Int.reduceLT, Int.reduceLE, Int.reduceEq, Int.reduceNeg, Int.reduceAdd, Int.reduceSub, Int.reduceMul, reduceIte]
           refine out_one (x := .a [U 97, U c, .s true 0 []]) ?_ rfl (by rfl) rfl rfl
           simp only [IA, PA, RA0, RA1, RA2, RA3, RA4, RA5, RA6, RA7, RA8, RA9, RA10, Nat.reduceAdd, Nat.reduceMul, Nat.reduceEqDiff, Nat.reduceLeDiff, Nat.reduceLT, Int.reduceToNat, Int.reduceLT, Int.reduceLE, Int.reduceEq, Int.reduceNeg, Int.reduceAdd, Int.reduceSub, Int.reduceMul, reduceIte]
           rfl)
    have h2 : isVar c = false := by simpa using h2
    have hv := h2
    rw [isVar_cases] at hv
    simp only [Bool.or_eq_false_iff] at hv
    obtain ⟨hx, hy, hz⟩ := hv
    simp only [l1In_ev, in_dig, in_lv, wrap_u8, e97, e98, hx, hy, hz, h1, h2, IA, PA, RA0, RA1, RA2, RA3, RA4, RA5, RA6, RA7, RA8, RA9, RA10, Nat.reduceAdd, Nat.reduceMul, Nat.reduceEqDiff, Nat.reduceLeDiff, Nat.reduceLT, Int.reduceToNat, Int.reduceLT, Int.reduceLE, Int.reduceEq, Int.reduceNeg, Int.reduceAdd, Int.reduceSub, Int.reduceMul, reduceIte]
    rw [l13Find_ev _ c (by decide)]
    by_cases h3 : isOne c = true
    · have h4 : [83, 77, 73, 78, 82, 67, 80].contains c = true := h3
      have hc0 : c ≠ 0 := fun e => by rw [e] at h3; exact absurd h3 (by decide)
      obtain ⟨hi1, rfl⟩ := hsome hc0
      simp only [findFrom_has, h3, h4, IA, PA, RA0, RA1, RA2, RA3, RA4, RA5, RA6, RA7, RA8, RA9, RA10, Nat.reduceAdd, Nat.reduceMul, Nat.reduceEqDiff, Nat.reduceLeDiff, Nat.reduceLT, Int.reduceToNat, Int.reduceLT, Int.reduceLE, Int.reduceEq, Int.reduceNeg, Int.reduceAdd, Int.reduceSub, Int.reduceMul, reduceIte]
      have hok := (partM_ok text n i1 false hq1.2).1
      rw [call_ob_v (by rfl) (by rfl) rfl rfl (hpart i1 false hq1.2 fun _ => hi1) rfl hok.cl (show 1 ≤ 4 by decide)]
      generalize partM text n i1 false = x at hok ⊢
      obtain ⟨z, i2, b2⟩ := x
      simp only at hok ⊢
      have hzl := hok.len
      have hzc := hok.cl
      simp only [hzl, IA, PA, RA0, RA1, RA2, RA3, RA4, RA5, RA6, RA7, RA8, RA9, RA10, Nat.reduceAdd, Nat.reduceMul, Nat.reduceEqDiff, Nat.reduceLeDiff, Nat.reduceLT, Int.reduceToNat, Int.reduceLT, Int.reduceLE, Int.reduceEq, Int.reduceNeg, Int.reduceAdd, Int.reduceSub, Int.reduceMul, reduceIte]
      refine out_one (x := .a [U c, U 0, .s true 1 z]) ?_ (by simp only [goes, closed, closedL, hzc, Bool.and_self]) (by rfl) rfl rfl
      simp only [IA, PA, RA0, RA1, RA2, RA3, RA4, RA5, RA6, RA7, RA8, RA9, RA10, Nat.reduceAdd, Nat.reduceMul, Nat.reduceEqDiff, Nat.reduceLeDiff, Nat.reduceLT, Int.reduceToNat, Int.reduceLT, Int.reduceLE, Int.reduceEq, Int.reduceNeg, Int.reduceAdd, Int.reduceSub, Int.reduceMul, reduceIte]
      rfl
    have h3 : isOne c = false := by simpa using h3
    have h4 : [83, 77, 73, 78, 82, 67, 80].contains c = false := h3
    by_cases hc : c = 40
    · subst hc
      obtain ⟨hi1, rfl⟩ := hsome (by decide)
      have e40 : decide ((((40 : UInt8).toNat : Nat) : Int) = 40) = true := rfl
      simp only [findFrom_has, h3, h4, e40, IA, PA, RA0, RA1, RA2, RA3, RA4, RA5, RA6, RA7, RA8, RA9, RA10, Nat.reduceAdd, Nat.reduceMul, Nat.reduceEqDiff, Nat.reduceLeDiff, Nat.reduceLT, Int.reduceToNat, Int.reduceLT, Int.reduceLE, Int.reduceEq, Int.reduceNeg, Int.reduceAdd, Int.reduceSub, Int.reduceMul, reduceIte]
      have hok := (partM_ok text n i1 false hq1.2).1
      have hle := (partM_ok text n i1 false hq1.2).2
      rw [call_ob_v (by rfl) (by rfl) rfl rfl (hpart i1 false hq1.2 fun _ => hi1) rfl hok.cl (show 1 ≤ 4 by decide)]
      generalize partM text n i1 false = x at hok hle ⊢
      obtain ⟨z, i2, b2⟩ := x
      simp only at hok hle ⊢
      have hzl := hok.len
      have hzc := hok.cl
      have hzf := hok.lf
      simp only [hzl, hzf, IA, PA, RA0, RA1, RA2, RA3, RA4, RA5, RA6, RA7, RA8, RA9, RA10, Nat.reduceAdd, Nat.reduceMul, Nat.reduceEqDiff, Nat.reduceLeDiff, Nat.reduceLT, Int.reduceToNat, Int.reduceLT, Int.reduceLE, Int.reduceEq, Int.reduceNeg, Int.reduceAdd, Int.reduceSub, Int.reduceMul, reduceIte]
      rw [call_ob_v (by rfl) (by rfl) rfl rfl (next_ev text i2 b2 hle.2 hl) rfl rfl (show 1 ≤ 4 by decide)]
      have hle3 := nxM_le b2 hle.2
      generalize nxM text i2 b2 = g at hle3 ⊢
      obtain ⟨sg, i3, b3⟩ := g
      simp only at hle3 ⊢
      have ht : decide (findFrom sg 0 [43, 42, 94, 45, 61, 60, 64] < 0) = !isTwo sg := findFrom_hasnt sg _ 0
      simp only [IA, PA, RA0, RA1, RA2, RA3, RA4, RA5, RA6, RA7, RA8, RA9, RA10, Nat.reduceAdd, Nat.reduceMul, Nat.reduceEqDiff, Nat.reduceLeDiff, Nat.reduceLT, Int.reduceToNat, Int.reduceLT, Int.reduceLE, Int.reduceEq, Int.reduceNeg, Int.reduceAdd, Int.reduceSub, Int.reduceMul, reduceIte]
      cases b3
      case' false =>
        simp only [IA, PA, RA0, RA1, RA2, RA3, RA4, RA5, RA6, RA7, RA8, RA9, RA10, Nat.reduceAdd, Nat.reduceMul, Nat.reduceEqDiff, Nat.reduceLeDiff, Nat.reduceLT, Int.reduceToNat, Int.reduceLT, Int.reduceLE, Int.reduceEq, Int.reduceNeg, Int.reduceAdd, Int.reduceSub, Int.reduceMul, reduceIte]
        rw [l13Find_ev _ sg (by decide)]
        simp only [ht, IA, PA, RA0, RA1, RA2, RA3, RA4, RA5, RA6, RA7, RA8, RA9, RA10, Nat.reduceAdd, Nat.reduceMul, Nat.reduceEqDiff, Nat.reduceLeDiff, Nat.reduceLT, Int.reduceToNat, Int.reduceLT, Int.reduceLE, Int.reduceEq, Int.reduceNeg, Int.reduceAdd, Int.reduceSub, Int.reduceMul, reduceIte]
        generalize hb4 : (!isTwo sg) = b4
        rw [call_ob_v (by rfl) (by rfl) rfl rfl (hpart i3 b4 hle3.2 fun _ => by omega) rfl (partM_ok text n i3 b4 hle3.2).1.cl (show 1 ≤ 4 by decide)]
        have hok2 := (partM_ok text n i3 b4 hle3.2).1
        have hle4 := (partM_ok text n i3 b4 hle3.2).2
        generalize partM text n i3 b4 = y at hok2 hle4 ⊢
      case' true =>
        simp only [IA, PA, RA0, RA1, RA2, RA3, RA4, RA5, RA6, RA7, RA8, RA9, RA10, Nat.reduceAdd, Nat.reduceMul, Nat.reduceEqDiff, Nat.reduceLeDiff, Nat.reduceLT, Int.reduceToNat, Int.reduceLT, Int.reduceLE, Int.reduceEq, Int.reduceNeg, Int.reduceAdd, Int.reduceSub, Int.reduceMul, reduceIte]
        rw [call_ob_v (by rfl) (by rfl) rfl rfl (hpart i3 true hle3.2 fun _ => by omega) rfl (partM_ok text n i3 true hle3.2).1.cl (show 1 ≤ 4 by decide)]
        have hok2 := (partM_ok text n i3 true hle3.2).1
        have hle4 := (partM_ok text n i3 true hle3.2).2
        generalize partM text n i3 true = y at hok2 hle4 ⊢
      all_goals
        obtain ⟨zy, i4, b5⟩ := y
        simp only at hok2 hle4 ⊢
        have hyl := hok2.len
        have hyc := hok2.cl
        have hyf := hok2.lf
        have t1 : z.take 3 = z := List.take_of_length_le (by omega)
        have t2 : zy.take 3 = zy := List.take_of_length_le (by omega)
        have hcl : goes (.a [U sg, U 0, .s true 2 (z ++ zy)]) = true := by simp only [goes, closed, closedL, closedL_append, hzc, hyc, Bool.and_self]
        cases b5
        · simp only [hyl, hyf, IA, PA, RA0, RA1, RA2, RA3, RA4, RA5, RA6, RA7, RA8, RA9, RA10, Nat.reduceAdd, Nat.reduceMul, Nat.reduceEqDiff, Nat.reduceLeDiff, Nat.reduceLT, Int.reduceToNat, Int.reduceLT, Int.reduceLE, Int.reduceEq, Int.reduceNeg, Int.reduceAdd, Int.reduceSub, Int.reduceMul, reduceIte]
          rw [call_ob_v (by rfl) (by rfl) rfl rfl (show EE 86 [rdr text i4 false, .v (.int .u8 41)] = some (.t [.t [], .t [rdr text (isM text i4 false 41).1 (isM text i4 false 41).2, .v (.int .u8 41)]]) from is_ev text i4 false 41 hle4.2 hl) rfl rfl (show 0 ≤ 4 by decide)]
          simp only [hzl, hyl, t1, t2, Nat.le_refl, IA, PA, RA0, RA1, RA2, RA3, RA4, RA5, RA6, RA7, RA8, RA9, RA10, Nat.reduceAdd, Nat.reduceMul, Nat.reduceEqDiff, Nat.reduceLeDiff, Nat.reduceLT, Int.reduceToNat, Int.reduceLT, Int.reduceLE, Int.reduceEq, Int.reduceNeg, Int.reduceAdd, Int.reduceSub, Int.reduceMul, reduceIte]
          refine out_one (x := .a [U sg, U 0, .s true 2 (z ++ zy)]) ?_ hcl (by rfl) rfl rfl
          simp only [IA, PA, RA0, RA1, RA2, RA3, RA4, RA5, RA6, RA7, RA8, RA9, RA10, Nat.reduceAdd, Nat.reduceMul, Nat.reduceEqDiff, Nat.reduceLeDiff, Nat.reduceLT, Int.reduceToNat, Int.reduceLT, Int.reduceLE, Int.reduceEq, Int.reduceNeg, Int.reduceAdd, Int.reduceSub, Int.reduceMul, reduceIte]
          rfl
        · simp only [hzl, hyl, hyf, t1, t2, Nat.le_refl, IA, PA, RA0, RA1, RA2, RA3, RA4, RA5, RA6, RA7, RA8, RA9, RA10, Nat.reduceAdd, Nat.reduceMul, Nat.reduceEqDiff, Nat.reduceLeDiff, Nat.reduceLT, Int.reduceToNat, Int.reduceLT, Int.reduceLE, Int.reduceEq, Int.reduceNeg, Int.reduceAdd, Int.reduceSub, Int.reduceMul, reduceIte]
          refine out_one (x := .a [U sg, U 0, .s true 2 (z ++ zy)]) ?_ hcl (by rfl) rfl rfl
          simp only [IA, PA, RA0, RA1, RA2, RA3, RA4, RA5, RA6, RA7, RA8, RA9, RA10, Nat.reduceAdd, Nat.reduceMul, Nat.reduceEqDiff, Nat.reduceLeDiff, Nat.reduceLT, Int.reduceToNat, Int.reduceLT, Int.reduceLE, Int.reduceEq, Int.reduceNeg, Int.reduceAdd, Int.reduceSub, Int.reduceMul, reduceIte]
          rfl
    by_cases hc2 : c = 91 ∨ c = 123
    case neg =>
      have e1 : decide (c = 91) = false := by simpa using fun e => hc2 (.inl e)
      have e2 : decide (c = 123) = false := by simpa using fun e => hc2 (.inr e)
      have e3 : decide (c = 40) = false := by simpa using hc
      simp only [findFrom_has, h3, h4, e40, e91, e123, e1, e2, e3, hc, hc2, IA, PA, RA0, RA1, RA2, RA3, RA4, RA5, RA6, RA7, RA8, RA9, RA10, Nat.reduceAdd, Nat.reduceMul, Nat.reduceEqDiff, Nat.reduceLeDiff, Nat.reduceLT, Int.reduceToNat, Int.reduceLT, Int.reduceLE, Int.reduceEq, Int.reduceNeg, Int.reduceAdd, Int.reduceSub, Int.reduceMul, reduceIte]
      refine out_one (x := .a zc) ?_ rfl (by rfl) rfl rfl
      simp only [IA, PA, RA0, RA1, RA2, RA3, RA4, RA5, RA6, RA7, RA8, RA9, RA10, Nat.reduceAdd, Nat.reduceMul, Nat.reduceEqDiff, Nat.reduceLeDiff, Nat.reduceLT, Int.reduceToNat, Int.reduceLT, Int.reduceLE, Int.reduceEq, Int.reduceNeg, Int.reduceAdd, Int.reduceSub, Int.reduceMul, reduceIte]
      rfl
    have hc0 : c ≠ 0 := by rcases hc2 with rfl | rfl <;> decide
    obtain ⟨hi1, rfl⟩ := hsome hc0
    have hcs : decide (c = 40) = false ∧ IntKind.u8.wrap ((c.toNat : Int) + 2) = ((c + 2).toNat : Int) := by
      rcases hc2 with rfl | rfl
      · exact ⟨rfl, rfl⟩
      · exact ⟨rfl, rfl⟩
    obtain ⟨e3, hw⟩ := hcs
    have hbr : (decide (c = 91) || decide (c = 123)) = true := by simpa using hc2
    generalize hb1 : decide (c = 91) = bb1 at hbr
    generalize hb2 : decide (c = 123) = bb2 at hbr
    have hb3 : bb1 = false → bb2 = true := by rintro rfl; simpa using hbr
    clear hbr
    have hle2 := nxM_le false hq1.2
    have hnx := next_ev text i1 false hq1.2 hl
    have hnx2 : (nxM text i1 false).2.2 = false → i1 < (nxM text i1 false).2.1 := fun h => by
      cases hc3 : text[i1]? with
      | none => rw [nxM_none false hc3] at h; cases h
      | some d => rw [nxM_some false hc3]; exact Nat.lt_succ_self i1
    simp only [findFrom_has, h3, h4, e40, e91, e123, e3, hc, hc2, IA, PA, RA0, RA1, RA2, RA3, RA4, RA5, RA6, RA7, RA8, RA9, RA10, Nat.reduceAdd, Nat.reduceMul, Nat.reduceEqDiff, Nat.reduceLeDiff, Nat.reduceLT, Int.reduceToNat, Int.reduceLT, Int.reduceLE, Int.reduceEq, Int.reduceNeg, Int.reduceAdd, Int.reduceSub, Int.reduceMul, reduceIte]
    generalize nxM text i1 false = g at hle2 hnx hnx2 ⊢
    obtain ⟨nm, i2, b2⟩ := g
    simp only at hle2 hnx hnx2 ⊢
    have fin : ∀ (x : List AV) (y : List AV), NodeOk x → NodeOk y → goes (.a [U c, U nm, .s true 2 (x ++ y)]) = true := fun x y h1 h2 => by simp only [goes, closed, closedL, closedL_append, h1.cl, h2.cl, Bool.and_self]
    cases bb1
    case' false => obtain rfl := hb3 rfl
    all_goals
      simp only [e91, e123, hb1, hb2, IA, PA, RA0, RA1, RA2, RA3, RA4, RA5, RA6, RA7, RA8, RA9, RA10, Nat.reduceAdd, Nat.reduceMul, Nat.reduceEqDiff, Nat.reduceLeDiff, Nat.reduceLT, Int.reduceToNat, Int.reduceLT, Int.reduceLE, Int.reduceEq, Int.reduceNeg, Int.reduceAdd, Int.reduceSub, Int.reduceMul, reduceIte]
      rw [call_ob_v (by rfl) (by rfl) rfl rfl hnx rfl rfl (show 1 ≤ 4 by decide)]
      simp only [IA, PA, RA0, RA1, RA2, RA3, RA4, RA5, RA6, RA7, RA8, RA9, RA10, Nat.reduceAdd, Nat.reduceMul, Nat.reduceEqDiff, Nat.reduceLeDiff, Nat.reduceLT, Int.reduceToNat, Int.reduceLT, Int.reduceLE, Int.reduceEq, Int.reduceNeg, Int.reduceAdd, Int.reduceSub, Int.reduceMul, reduceIte]
      cases b2
      case' false =>
        simp only [l1In_ev, in_lv, wrap_u8, IA, PA, RA0, RA1, RA2, RA3, RA4, RA5, RA6, RA7, RA8, RA9, RA10, Nat.reduceAdd, Nat.reduceMul, Nat.reduceEqDiff, Nat.reduceLeDiff, Nat.reduceLT, Int.reduceToNat, Int.reduceLT, Int.reduceLE, Int.reduceEq, Int.reduceNeg, Int.reduceAdd, Int.reduceSub, Int.reduceMul, reduceIte]
        generalize hb4 : (!isLV nm) = b4
        have hlt : i2 ≤ i2 := Nat.le_refl _
        have his := is_ev text i2 b4 58 hle2.2 hl
        have hle3 := isM_le (text := text) b4 58 hle2.2
        rw [call_ob_v (by rfl) (by rfl) rfl rfl (show EE 86 [rdr text i2 b4, .v (.int .u8 58)] = some (.t [.t [], .t [rdr text (isM text i2 b4 58).1 (isM text i2 b4 58).2, .v (.int .u8 58)]]) from his) rfl rfl (show 0 ≤ 4 by decide)]
        generalize isM text i2 b4 58 = c1 at hle3 ⊢
      case' true =>
        simp only [IA, PA, RA0, RA1, RA2, RA3, RA4, RA5, RA6, RA7, RA8, RA9, RA10, Nat.reduceAdd, Nat.reduceMul, Nat.reduceEqDiff, Nat.reduceLeDiff, Nat.reduceLT, Int.reduceToNat, Int.reduceLT, Int.reduceLE, Int.reduceEq, Int.reduceNeg, Int.reduceAdd, Int.reduceSub, Int.reduceMul, reduceIte]
        have his := is_ev text i2 true 58 hle2.2 hl
        have hle3 := isM_le (text := text) true 58 hle2.2
        rw [call_ob_v (by rfl) (by rfl) rfl rfl (show EE 86 [rdr text i2 true, .v (.int .u8 58)] = some (.t [.t [], .t [rdr text (isM text i2 true 58).1 (isM text i2 true 58).2, .v (.int .u8 58)]]) from his) rfl rfl (show 0 ≤ 4 by decide)]
        generalize isM text i2 true 58 = c1 at hle3 ⊢
      all_goals
        obtain ⟨i3, b3⟩ := c1
        simp only at hle3
        simp only [IA, PA, RA0, RA1, RA2, RA3, RA4, RA5, RA6, RA7, RA8, RA9, RA10, Nat.reduceAdd, Nat.reduceMul, Nat.reduceEqDiff, Nat.reduceLeDiff, Nat.reduceLT, Int.reduceToNat, Int.reduceLT, Int.reduceLE, Int.reduceEq, Int.reduceNeg, Int.reduceAdd, Int.reduceSub, Int.reduceMul, reduceIte]
        have hok := (partM_ok text n i3 b3 hle3.2).1
        have hle4 := (partM_ok text n i3 b3 hle3.2).2
        rw [call_ob_v (by rfl) (by rfl) rfl rfl (hpart i3 b3 hle3.2 fun _ => by omega) rfl hok.cl (show 1 ≤ 4 by decide)]
        generalize partM text n i3 b3 = x at hok hle4 ⊢
        obtain ⟨z, i4, b4⟩ := x
        simp only at hok hle4
        have hzl := hok.len
        have hzc := hok.cl
        have hzf := hok.lf
        simp only [hzl, hzf, IA, PA, RA0, RA1, RA2, RA3, RA4, RA5, RA6, RA7, RA8, RA9, RA10, Nat.reduceAdd, Nat.reduceMul, Nat.reduceEqDiff, Nat.reduceLeDiff, Nat.reduceLT, Int.reduceToNat, Int.reduceLT, Int.reduceLE, Int.reduceEq, Int.reduceNeg, Int.reduceAdd, Int.reduceSub, Int.reduceMul, reduceIte]
        have his2 := is_ev text i4 b4 62 hle4.2 hl
        have hle5 := isM_le (text := text) b4 62 hle4.2
        rw [call_ob_v (by rfl) (by rfl) rfl rfl (show EE 86 [rdr text i4 b4, .v (.int .u8 62)] = some (.t [.t [], .t [rdr text (isM text i4 b4 62).1 (isM text i4 b4 62).2, .v (.int .u8 62)]]) from his2) rfl rfl (show 0 ≤ 4 by decide)]
        generalize isM text i4 b4 62 = c2 at hle5 ⊢
        obtain ⟨i5, b5⟩ := c2
        simp only at hle5
        simp only [IA, PA, RA0, RA1, RA2, RA3, RA4, RA5, RA6, RA7, RA8, RA9, RA10, Nat.reduceAdd, Nat.reduceMul, Nat.reduceEqDiff, Nat.reduceLeDiff, Nat.reduceLT, Int.reduceToNat, Int.reduceLT, Int.reduceLE, Int.reduceEq, Int.reduceNeg, Int.reduceAdd, Int.reduceSub, Int.reduceMul, reduceIte]
        have hok2 := (partM_ok text n i5 b5 hle5.2).1
        have hle6 := (partM_ok text n i5 b5 hle5.2).2
        rw [call_ob_v (by rfl) (by rfl) rfl rfl (hpart i5 b5 hle5.2 fun _ => by omega) rfl hok2.cl (show 1 ≤ 4 by decide)]
        generalize partM text n i5 b5 = y at hok2 hle6 ⊢
        obtain ⟨zy, i6, b6⟩ := y
        simp only at hok2 hle6
        have hyl := hok2.len
        have hyc := hok2.cl
        have hyf := hok2.lf
        have t1 : z.take 3 = z := List.take_of_length_le (by omega)
        have t2 : zy.take 3 = zy := List.take_of_length_le (by omega)
        have hcl := fin z zy hok hok2
        cases b6
        · simp only [hyl, hyf, hw, IA, PA, RA0, RA1, RA2, RA3, RA4, RA5, RA6, RA7, RA8, RA9, RA10, Nat.reduceAdd, Nat.reduceMul, Nat.reduceEqDiff, Nat.reduceLeDiff, Nat.reduceLT, Int.reduceToNat, Int.reduceLT, Int.reduceLE, Int.reduceEq, Int.reduceNeg, Int.reduceAdd, Int.reduceSub, Int.reduceMul, reduceIte]
          rw [call_ob_v (by rfl) (by rfl) rfl rfl (is_ev text i6 false (c + 2) hle6.2 hl) rfl rfl (show 0 ≤ 4 by decide)]
          simp only [hzl, hyl, t1, t2, Nat.le_refl, IA, PA, RA0, RA1, RA2, RA3, RA4, RA5, RA6, RA7, RA8, RA9, RA10, Nat.reduceAdd, Nat.reduceMul, Nat.reduceEqDiff, Nat.reduceLeDiff, Nat.reduceLT, Int.reduceToNat, Int.reduceLT, Int.reduceLE, Int.reduceEq, Int.reduceNeg, Int.reduceAdd, Int.reduceSub, Int.reduceMul, reduceIte]
          refine out_one (x := .a [U c, U nm, .s true 2 (z ++ zy)]) ?_ hcl (by rfl) rfl rfl
          simp only [IA, PA, RA0, RA1, RA2, RA3, RA4, RA5, RA6, RA7, RA8, RA9, RA10, Nat.reduceAdd, Nat.reduceMul, Nat.reduceEqDiff, Nat.reduceLeDiff, Nat.reduceLT, Int.reduceToNat, Int.reduceLT, Int.reduceLE, Int.reduceEq, Int.reduceNeg, Int.reduceAdd, Int.reduceSub, Int.reduceMul, reduceIte]
        · simp only [hzl, hyl, hyf, t1, t2, Nat.le_refl, IA, PA, RA0, RA1, RA2, RA3, RA4, RA5, RA6, RA7, RA8, RA9, RA10, Nat.reduceAdd, Nat.reduceMul, Nat.reduceEqDiff, Nat.reduceLeDiff, Nat.reduceLT, Int.reduceToNat, Int.reduceLT, Int.reduceLE, Int.reduceEq, Int.reduceNeg, Int.reduceAdd, Int.reduceSub, Int.reduceMul, reduceIte]
          refine out_one (x := .a [U c, U nm, .s true 2 (z ++ zy)]) ?_ hcl (by rfl) rfl rfl
          simp only [IA, PA, RA0, RA1, RA2, RA3, RA4, RA5, RA6, RA7, RA8, RA9, RA10, Nat.reduceAdd, Nat.reduceMul, Nat.reduceEqDiff, Nat.reduceLeDiff, Nat.reduceLT, Int.reduceToNat, Int.reduceLT, Int.reduceLE, Int.reduceEq, Int.reduceNeg, Int.reduceAdd, Int.reduceSub, Int.reduceMul, reduceIte]
end
end Go.Proofs.YtegbkihgnofkfaaGreatDoor.Ev
