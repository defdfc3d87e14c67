/-
Texts Td to Ue of the work, in one.
-/
import Derived.Test.YtkilalabmbdmkaaDoorZ4
/-
Reading a term: the reference's reader as a function of the place, and that its code gives it.
-/
namespace Go.Proofs.YtkilalabmbdmkaaDoor.Ev
section
set_option linter.unusedVariables false
set_option linter.unusedSimpArgs false
open Go Go.RowKit
set_option linter.unusedVariables false
set_option linter.unusedSimpArgs false

/-- The cells of no term. -/
def zc : List AV := [U 0, U 0, .s true 0 []]
def nodeM (text : List UInt8) : Nat → Nat → Bool → List AV × Nat × Bool
  | 0, i, _ => (zc, i, true)
  | n + 1, i, b =>
    let q := nxM text i b
    let part : Nat → Bool → List AV × Nat × Bool := fun i b => if b = true then (zc, i, true) else nodeM text n i false
    if isDig q.1 = true then ([U 48, U q.1, .s true 0 []], q.2)
    else if isVar q.1 = true then ([U 97, U q.1, .s true 0 []], q.2)
    else if isOne q.1 = true then ([U q.1, U 0, .s true 1 (part q.2.1 q.2.2).1], (part q.2.1 q.2.2).2)
    else if q.1 = 40 then
      let x := part q.2.1 q.2.2
      let g := nxM text x.2.1 x.2.2
      let y := part g.2.1 (g.2.2 || !isTwo g.1)
      ([U g.1, U 0, .s true 2 (x.1 ++ y.1)], if y.2.2 = true then y.2 else isM text y.2.1 false 41)
    else if q.1 = 91 ∨ q.1 = 123 then
      let g := nxM text q.2.1 q.2.2
      let c1 := isM text g.2.1 (g.2.2 || !isLV g.1) 58
      let x := part c1.1 c1.2
      let c2 := isM text x.2.1 x.2.2 62
      let y := part c2.1 c2.2
      ([U q.1, U g.1, .s true 2 (x.1 ++ y.1)], if y.2.2 = true then y.2 else isM text y.2.1 false (q.1 + 2))
    else (zc, q.2.1, true)
def partM (text : List UInt8) (n i : Nat) (b : Bool) : List AV × Nat × Bool := if b = true then (zc, i, true) else nodeM text n i false

theorem nodeM_succ (text : List UInt8) (n i : Nat) (b : Bool) : nodeM text (n + 1) i b =
    (let q := nxM text i b
    if isDig q.1 = true then ([U 48, U q.1, .s true 0 []], q.2)
    else if isVar q.1 = true then ([U 97, U q.1, .s true 0 []], q.2)
    else if isOne q.1 = true then ([U q.1, U 0, .s true 1 (partM text n q.2.1 q.2.2).1], (partM text n q.2.1 q.2.2).2)
    else if q.1 = 40 then
      let x := partM text n q.2.1 q.2.2
      let g := nxM text x.2.1 x.2.2
      let y := partM text n g.2.1 (g.2.2 || !isTwo g.1)
      ([U g.1, U 0, .s true 2 (x.1 ++ y.1)], if y.2.2 = true then y.2 else isM text y.2.1 false 41)
    else if q.1 = 91 ∨ q.1 = 123 then
      let g := nxM text q.2.1 q.2.2
      let c1 := isM text g.2.1 (g.2.2 || !isLV g.1) 58
      let x := partM text n c1.1 c1.2
      let c2 := isM text x.2.1 x.2.2 62
      let y := partM text n c2.1 c2.2
      ([U q.1, U g.1, .s true 2 (x.1 ++ y.1)], if y.2.2 = true then y.2 else isM text y.2.1 false (q.1 + 2))
    else (zc, q.2.1, true)) := rfl

/-- What a node's cells must be. -/
structure NodeOk (z : List AV) : Prop where
  len : z.length = 3
  cl : closedL z = true
  lf : z.all leafOk = true
theorem isM_le {text : List UInt8} {i : Nat} (b : Bool) (c : UInt8) (hi : i ≤ text.length) : i ≤ (isM text i b c).1 ∧ (isM text i b c).1 ≤ text.length := nxM_le b hi
theorem nodeM_ok (text : List UInt8) : ∀ (n i : Nat) (b : Bool), i ≤ text.length → NodeOk (nodeM text n i b).1 ∧ i ≤ (nodeM text n i b).2.1 ∧ (nodeM text n i b).2.1 ≤ text.length := by
  intro n
  induction n with
  | zero => intro i b hi; exact ⟨⟨rfl, rfl, rfl⟩, Nat.le_refl _, hi⟩
  | succ n ih =>
    intro i b hi
    have hp : ∀ (i : Nat) (b : Bool), i ≤ text.length → NodeOk (if b = true then (zc, i, true) else nodeM text n i false).1 ∧ i ≤ (if b = true then (zc, i, true) else nodeM text n i false).2.1 ∧ (if b = true then (zc, i, true) else nodeM text n i false).2.1 ≤ text.length := by
      intro i b hi
      cases b with
      | true => exact ⟨⟨rfl, rfl, rfl⟩, Nat.le_refl _, hi⟩
      | false => exact ih i false hi
    have hq := nxM_le b hi
    simp only [nodeM]
    split
    · exact ⟨⟨rfl, rfl, rfl⟩, hq⟩
    split
    · exact ⟨⟨rfl, rfl, rfl⟩, hq⟩
    split
    · have h1 := hp _ (nxM text i b).2.2 hq.2
      exact ⟨⟨rfl, by simp only [closedL, closed, h1.1.cl, Bool.and_self], rfl⟩, Nat.le_trans hq.1 h1.2.1, h1.2.2⟩
    split
    · have h1 := hp _ (nxM text i b).2.2 hq.2
      have h2 := nxM_le (i := (if (nxM text i b).2.2 = true then (zc, (nxM text i b).2.1, true) else nodeM text n (nxM text i b).2.1 false).2.1) (if (nxM text i b).2.2 = true then (zc, (nxM text i b).2.1, true) else nodeM text n (nxM text i b).2.1 false).2.2 h1.2.2
      generalize (if (nxM text i b).2.2 = true then (zc, (nxM text i b).2.1, true) else nodeM text n (nxM text i b).2.1 false) = x at *
      generalize nxM text x.2.1 x.2.2 = g at *
      have h3 := hp g.2.1 (g.2.2 || !isTwo g.1) h2.2
      generalize (if (g.2.2 || !isTwo g.1) = true then (zc, g.2.1, true) else nodeM text n g.2.1 false) = y at *
      have h4 := isM_le (text := text) false 41 h3.2.2
      refine ⟨⟨rfl, by simp only [closedL, closed, closedL_append, h1.1.cl, h3.1.cl, Bool.and_self], rfl⟩, ?_⟩
      split
      · exact ⟨by show i ≤ y.2.1; omega, h3.2.2⟩
      · exact ⟨by show i ≤ (isM text y.2.1 false 41).1; omega, h4.2⟩
    split
    · have h2 := nxM_le (nxM text i b).2.2 hq.2
      generalize (nxM text (nxM text i b).2.1 (nxM text i b).2.2) = g at *
      have h3 := isM_le (text := text) (g.2.2 || !isLV g.1) 58 h2.2
      generalize isM text g.2.1 (g.2.2 || !isLV g.1) 58 = c1 at *
      have h4 := hp c1.1 c1.2 h3.2
      generalize (if c1.2 = true then (zc, c1.1, true) else nodeM text n c1.1 false) = x at *
      have h5 := isM_le (text := text) x.2.2 62 h4.2.2
      generalize isM text x.2.1 x.2.2 62 = c2 at *
      have h6 := hp c2.1 c2.2 h5.2
      generalize (if c2.2 = true then (zc, c2.1, true) else nodeM text n c2.1 false) = y at *
      have h7 := isM_le (text := text) false ((nxM text i b).1 + 2) h6.2.2
      refine ⟨⟨rfl, by simp only [closedL, closed, closedL_append, h4.1.cl, h6.1.cl, Bool.and_self], rfl⟩, ?_⟩
      split
      · exact ⟨by show i ≤ y.2.1; omega, h6.2.2⟩
      · exact ⟨by show i ≤ (isM text y.2.1 false ((nxM text i b).1 + 2)).1; omega, h7.2⟩
    · exact ⟨⟨rfl, rfl, rfl⟩, hq⟩
theorem partM_ok (text : List UInt8) (n i : Nat) (b : Bool) (hi : i ≤ text.length) : NodeOk (partM text n i b).1 ∧ i ≤ (partM text n i b).2.1 ∧ (partM text n i b).2.1 ≤ text.length := by
  unfold partM
  split
  · exact ⟨⟨rfl, rfl, rfl⟩, Nat.le_refl _, hi⟩
  · exact nodeM_ok text n i false hi

/-! ### laws of bytes -/
theorem in_dig (c : UInt8) : decide ((48 : Int) ≤ (c.toNat : Int) ∧ (c.toNat : Int) ≤ 57) = isDig c := by
  rw [Bool.eq_iff_iff]
  simp only [isDig, decide_eq_true_iff, Bool.and_eq_true]
  omega
theorem in_lv (c : UInt8) : decide ((118 : Int) ≤ (c.toNat : Int) ∧ (c.toNat : Int) ≤ 122) = isLV c := by
  rw [Bool.eq_iff_iff]
  simp only [isLV, decide_eq_true_iff, Bool.and_eq_true]
  omega
theorem eq_nat (c d : UInt8) : decide ((c.toNat : Int) = (d.toNat : Int)) = decide (c = d) := by
  rw [decide_eq_decide, ← UInt8.toNat_inj]
  omega
theorem wrap_u8 (c : UInt8) : IntKind.i64.wrap (c.toNat : Int) = (c.toNat : Int) := by
  have := u8_lt c
  exact wrap64 (by omega) (by omega)
theorem isVar_cases (c : UInt8) : isVar c = (decide (c = 97) || (decide (c = 98) || isLV c)) := by
  rw [Bool.eq_iff_iff]
  simp only [isVar, isLV, List.contains_cons, List.contains_nil, Bool.or_eq_true, Bool.and_eq_true, decide_eq_true_iff, beq_iff_eq, Bool.or_false, ← UInt8.toNat_inj]
  show c.toNat = 97 ∨ c.toNat = 98 ∨ c.toNat = 118 ∨ c.toNat = 119 ∨ c.toNat = 120 ∨ c.toNat = 121 ∨ c.toNat = 122 ↔ c.toNat = 97 ∨ c.toNat = 98 ∨ _
  omega
theorem findFrom_has (c : UInt8) : ∀ (l : List UInt8) (i : Nat), decide ((0 : Int) ≤ findFrom c i l) = l.contains c
  | [], i => rfl
  | x :: l, i => by
    have ih := findFrom_has c l (i + 1)
    by_cases h : x = c
    · have e : findFrom c i (x :: l) = (i : Int) := by rw [findFrom, if_pos h]
      subst h
      refine (congrArg (fun z => decide ((0 : Int) ≤ z)) e).trans ?_
      simp
    · have h2 : (c == x) = false := by simpa using fun e => h e.symm
      have e : findFrom c i (x :: l) = findFrom c (i + 1) l := by rw [findFrom, if_neg h]
      refine (congrArg (fun z => decide ((0 : Int) ≤ z)) e).trans ?_
      rw [List.contains_cons, h2, Bool.false_or]
      exact ih
theorem findFrom_hasnt (c : UInt8) (l : List UInt8) (i : Nat) : decide (findFrom c i l < (0 : Int)) = !l.contains c := by
  rw [← findFrom_has c l i, ← decide_not, decide_eq_decide]
  omega

theorem T_part : TT 76 = some (Tryd.f76, bodyOf Tryd.f76) := by kernel_rfl
theorem part_ev (text : List UInt8) (n : Nat) (hl : text.length < 4611686018427387904)
    (hn : ∀ (i : Nat), i ≤ text.length → text.length - i < n → EE 47 [rdr text i false] = some (.t [.a (nodeM text n i false).1, .t [rdr text (nodeM text n i false).2.1 (nodeM text n i false).2.2]]))
    (i : Nat) (b : Bool) (hi : i ≤ text.length) (hin : b = false → text.length - i < n) :
    EE 76 [rdr text i b] = some (.t [.a (partM text n i b).1, .t [rdr text (partM text n i b).2.1 (partM text n i b).2.2]]) := by
  refine EE_lend T_part (by decide) (Nat.le_of_ble_eq_true rfl) rfl rfl ?_
  rw [show opt 76 = [] from rfl]
  simp only [bodyOf, Tryd.f76, SA]
  cases b with
  | true =>
    simp only [partM, if_true, IA, PA, RA0, RA1, RA2, RA3, RA4, RA5, RA6, RA7, RA8, RA9, RA10, Nat.reduceAdd, Nat.reduceMul, Nat.reduceEqDiff, Nat.reduceLeDiff, Nat.reduceLT, Int.reduceToNat, Int.reduceLT, Int.reduceLE, Int.reduceEq, Int.reduceNeg, Int.reduceAdd, Int.reduceSub, Int.reduceMul, reduceIte]
    refine out_one (x := .a zc) ?_ rfl (by rfl) rfl rfl
    simp only [IA, PA, RA0, RA1, RA2, RA3, RA4, RA5, RA6, RA7, RA8, RA9, RA10, Nat.reduceAdd, Nat.reduceMul, Nat.reduceEqDiff, Nat.reduceLeDiff, Nat.reduceLT, Int.reduceToNat, Int.reduceLT, Int.reduceLE, Int.reduceEq, Int.reduceNeg, Int.reduceAdd, Int.reduceSub, Int.reduceMul, reduceIte]
    rfl
  | false =>
    have h := hn i hi (hin rfl)
    have hok := (nodeM_ok text n i false hi).1
    simp only [IA, PA, RA0, RA1, RA2, RA3, RA4, RA5, RA6, RA7, RA8, RA9, RA10, Nat.reduceAdd, Nat.reduceMul, Nat.reduceEqDiff, Nat.reduceLeDiff, Nat.reduceLT, Int.reduceToNat, Int.reduceLT, Int.reduceLE, Int.reduceEq, Int.reduceNeg, Int.reduceAdd, Int.reduceSub, Int.reduceMul, reduceIte]
    simp only [partM, Bool.false_eq_true, if_false]
    generalize nodeM text n i false = q at *
    obtain ⟨z, i', b'⟩ := q
    obtain ⟨z0, z1, z2, rfl⟩ : ∃ z0 z1 z2, z = [z0, z1, z2] := by
      have := hok.len
      match z, this with
      | [z0, z1, z2], _ => exact ⟨_, _, _, rfl⟩
    have hlf := hok.lf
    rw [call_ob_v (by rfl) (by rfl) rfl rfl h rfl hok.cl (show 1 ≤ 4 by decide)]
    have hlf2 : leafOk z0 = true ∧ leafOk z1 = true ∧ leafOk z2 = true := by simpa [List.all_cons] using hlf
    simp only [hlf2.1, hlf2.2.1, hlf2.2.2, IA, PA, RA0, RA1, RA2, RA3, RA4, RA5, RA6, RA7, RA8, RA9, RA10, Nat.reduceAdd, Nat.reduceMul, Nat.reduceEqDiff, Nat.reduceLeDiff, Nat.reduceLT, Int.reduceToNat, Int.reduceLT, Int.reduceLE, Int.reduceEq, Int.reduceNeg, Int.reduceAdd, Int.reduceSub, Int.reduceMul, reduceIte]
    refine out_one (x := .a [z0, z1, z2]) ?_ hok.cl (by rfl) rfl rfl
    simp only [IA, PA, RA0, RA1, RA2, RA3, RA4, RA5, RA6, RA7, RA8, RA9, RA10, Nat.reduceAdd, Nat.reduceMul, Nat.reduceEqDiff, Nat.reduceLeDiff, Nat.reduceLT, Int.reduceToNat, Int.reduceLT, Int.reduceLE, Int.reduceEq, Int.reduceNeg, Int.reduceAdd, Int.reduceSub, Int.reduceMul, reduceIte]

theorem T_node : TT 47 = some (Tryd.f47, bodyOf Tryd.f47) := by kernel_rfl
set_option maxHeartbeats 8000000 in
theorem node_ev (text : List UInt8) (hl : text.length < 4611686018427387904) : ∀ (n i : Nat), i ≤ text.length → text.length - i < n →
    EE 47 [rdr text i false] = some (.t [.a (nodeM text n i false).1, .t [rdr text (nodeM text n i false).2.1 (nodeM text n i false).2.2]]) := by
  intro n
  induction n with
  | zero => intro i _ h; omega
  | succ n ih =>
    intro i hi hn
    have hpart : ∀ (j : Nat) (b : Bool), j ≤ text.length → (b = false → i < j) → EE 76 [rdr text j b] = some (.t [.a (partM text n j b).1, .t [rdr text (partM text n j b).2.1 (partM text n j b).2.2]]) :=
      fun j b hj hb => part_ev text n hl ih j b hj fun e => by have := hb e; omega
    refine EE_lend T_node (by decide) (Nat.le_of_ble_eq_true rfl) rfl rfl ?_
    rw [show opt 47 = [] from rfl]
    simp only [bodyOf, Tryd.f47, SA]
    simp only [IA, PA, RA0, RA1, RA2, RA3, RA4, RA5, RA6, RA7, RA8, RA9, RA10, Nat.reduceAdd, Nat.reduceMul, Nat.reduceEqDiff, Nat.reduceLeDiff, Nat.reduceLT, Int.reduceToNat, Int.reduceLT, Int.reduceLE, Int.reduceEq, Int.reduceNeg, Int.reduceAdd, Int.reduceSub, Int.reduceMul, reduceIte]
    rw [call_ob_v (by rfl) (by rfl) rfl rfl (next_ev text i false hi hl) rfl rfl (show 1 ≤ 4 by decide)]
    have hq1 := nxM_le false hi
    have hnone : text[i]? = none → (nxM text i false).1 = 0 := fun h => by rw [nxM_none false h]
    have hsome : (nxM text i false).1 ≠ 0 → i < (nxM text i false).2.1 ∧ (nxM text i false).2.2 = false := fun h => by
      cases hc : text[i]? with
      | none => exact absurd (hnone hc) h
      | some c => rw [nxM_some false hc]; exact ⟨Nat.lt_succ_self i, rfl⟩
    rw [nodeM_succ]
    generalize nxM text i false = q at hq1 hnone hsome ⊢
    obtain ⟨c, i1, b1⟩ := q
    simp only at hq1 hnone hsome ⊢
    by_cases h1 : isDig c = true
    · simp only [l1In_ev, in_dig, wrap_u8, h1, IA, PA, RA0, RA1, RA2, RA3, RA4, RA5, RA6, RA7, RA8, RA9, RA10, Nat.reduceAdd, Nat.reduceMul, Nat.reduceEqDiff, Nat.reduceLeDiff, Nat.reduceLT, Int.reduceToNat, Int.reduceLT, Int.reduceLE, Int.reduceEq, Int.reduceNeg, Int.reduceAdd, Int.reduceSub, Int.reduceMul, reduceIte]
      refine out_one (x := .a [U 48, U c, .s true 0 []]) ?_ rfl (by rfl) rfl rfl
      simp only [IA, PA, RA0, RA1, RA2, RA3, RA4, RA5, RA6, RA7, RA8, RA9, RA10, Nat.reduceAdd, Nat.reduceMul, Nat.reduceEqDiff, Nat.reduceLeDiff, Nat.reduceLT, Int.reduceToNat, Int.reduceLT, Int.reduceLE, Int.reduceEq, Int.reduceNeg, Int.reduceAdd, Int.reduceSub, Int.reduceMul, reduceIte]
      rfl
    have h1 : isDig c = false := by simpa using h1
    have e97 : decide ((c.toNat : Int) = 97) = decide (c = 97) := eq_nat c 97
    have e98 : decide ((c.toNat : Int) = 98) = decide (c = 98) := eq_nat c 98
    have e40 : decide ((c.toNat : Int) = 40) = decide (c = 40) := eq_nat c 40
    have e91 : decide ((c.toNat : Int) = 91) = decide (c = 91) := eq_nat c 91
    have e123 : decide ((c.toNat : Int) = 123) = decide (c = 123) := eq_nat c 123
    by_cases h2 : isVar c = true
    · have hv := h2
      rw [isVar_cases] at hv
      generalize hx : decide (c = 97) = x at hv
      generalize hy : decide (c = 98) = y at hv
      generalize hz : isLV c = z at hv
      cases x <;> cases y <;> cases z <;> first
        | (exact absurd hv (by decide))
        | (simp only [l1In_ev, in_dig, in_lv, wrap_u8, e97, e98, hx, hy, hz, h1, h2, IA, PA, RA0, RA1, RA2, RA3, RA4, RA5, RA6, RA7, RA8, RA9, RA10, Nat.reduceAdd, Nat.reduceMul, Nat.reduceEqDiff, Nat.reduceLeDiff, Nat.reduceLT, Int.reduceToNat, Int.reduceLT, Int.reduceLE, Int.reduceEq, Int.reduceNeg, Int.reduceAdd, Int.reduceSub, Int.reduceMul, reduceIte]
           refine out_one (x := .a [U 97, U c, .s true 0 []]) ?_ rfl (by rfl) rfl rfl
           simp only [IA, PA, RA0, RA1, RA2, RA3, RA4, RA5, RA6, RA7, RA8, RA9, RA10, Nat.reduceAdd, Nat.reduceMul, Nat.reduceEqDiff, Nat.reduceLeDiff, Nat.reduceLT, Int.reduceToNat, Int.reduceLT, Int.reduceLE, Int.reduceEq, Int.reduceNeg, Int.reduceAdd, Int.reduceSub, Int.reduceMul, reduceIte]
           rfl)
    have h2 : isVar c = false := by simpa using h2
    have hv := h2
    rw [isVar_cases] at hv
    simp only [Bool.or_eq_false_iff] at hv
    obtain ⟨hx, hy, hz⟩ := hv
    simp only [l1In_ev, in_dig, in_lv, wrap_u8, e97, e98, hx, hy, hz, h1, h2, IA, PA, RA0, RA1, RA2, RA3, RA4, RA5, RA6, RA7, RA8, RA9, RA10, Nat.reduceAdd, Nat.reduceMul, Nat.reduceEqDiff, Nat.reduceLeDiff, Nat.reduceLT, Int.reduceToNat, Int.reduceLT, Int.reduceLE, Int.reduceEq, Int.reduceNeg, Int.reduceAdd, Int.reduceSub, Int.reduceMul, reduceIte]
    rw [l13Find_ev _ c (by decide)]
    by_cases h3 : isOne c = true
    · have h4 : [83, 77, 73, 78, 82, 67, 80].contains c = true := h3
      have hc0 : c ≠ 0 := fun e => by rw [e] at h3; exact absurd h3 (by decide)
      obtain ⟨hi1, rfl⟩ := hsome hc0
      simp only [findFrom_has, h3, h4, IA, PA, RA0, RA1, RA2, RA3, RA4, RA5, RA6, RA7, RA8, RA9, RA10, Nat.reduceAdd, Nat.reduceMul, Nat.reduceEqDiff, Nat.reduceLeDiff, Nat.reduceLT, Int.reduceToNat, Int.reduceLT, Int.reduceLE, Int.reduceEq, Int.reduceNeg, Int.reduceAdd, Int.reduceSub, Int.reduceMul, reduceIte]
      have hok := (partM_ok text n i1 false hq1.2).1
      rw [call_ob_v (by rfl) (by rfl) rfl rfl (hpart i1 false hq1.2 fun _ => hi1) rfl hok.cl (show 1 ≤ 4 by decide)]
      generalize partM text n i1 false = x at hok ⊢
      obtain ⟨z, i2, b2⟩ := x
      simp only at hok ⊢
      have hzl := hok.len
      have hzc := hok.cl
      simp only [hzl, IA, PA, RA0, RA1, RA2, RA3, RA4, RA5, RA6, RA7, RA8, RA9, RA10, Nat.reduceAdd, Nat.reduceMul, Nat.reduceEqDiff, Nat.reduceLeDiff, Nat.reduceLT, Int.reduceToNat, Int.reduceLT, Int.reduceLE, Int.reduceEq, Int.reduceNeg, Int.reduceAdd, Int.reduceSub, Int.reduceMul, reduceIte]
      refine out_one (x := .a [U c, U 0, .s true 1 z]) ?_ (by simp only [goes, closed, closedL, hzc, Bool.and_self]) (by rfl) rfl rfl
      simp only [IA, PA, RA0, RA1, RA2, RA3, RA4, RA5, RA6, RA7, RA8, RA9, RA10, Nat.reduceAdd, Nat.reduceMul, Nat.reduceEqDiff, Nat.reduceLeDiff, Nat.reduceLT, Int.reduceToNat, Int.reduceLT, Int.reduceLE, Int.reduceEq, Int.reduceNeg, Int.reduceAdd, Int.reduceSub, Int.reduceMul, reduceIte]
      rfl
    have h3 : isOne c = false := by simpa using h3
    have h4 : [83, 77, 73, 78, 82, 67, 80].contains c = false := h3
    by_cases hc : c = 40
    · subst hc
      obtain ⟨hi1, rfl⟩ := hsome (by decide)
      have e40 : decide ((((40 : UInt8).toNat : Nat) : Int) = 40) = true := rfl
      simp only [findFrom_has, h3, h4, e40, IA, PA, RA0, RA1, RA2, RA3, RA4, RA5, RA6, RA7, RA8, RA9, RA10, Nat.reduceAdd, Nat.reduceMul, Nat.reduceEqDiff, Nat.reduceLeDiff, Nat.reduceLT, Int.reduceToNat, Int.reduceLT, Int.reduceLE, Int.reduceEq, Int.reduceNeg, Int.reduceAdd, Int.reduceSub, Int.reduceMul, reduceIte]
      have hok := (partM_ok text n i1 false hq1.2).1
      have hle := (partM_ok text n i1 false hq1.2).2
      rw [call_ob_v (by rfl) (by rfl) rfl rfl (hpart i1 false hq1.2 fun _ => hi1) rfl hok.cl (show 1 ≤ 4 by decide)]
      generalize partM text n i1 false = x at hok hle ⊢
      obtain ⟨z, i2, b2⟩ := x
      simp only at hok hle ⊢
      have hzl := hok.len
      have hzc := hok.cl
      have hzf := hok.lf
      simp only [hzl, hzf, IA, PA, RA0, RA1, RA2, RA3, RA4, RA5, RA6, RA7, RA8, RA9, RA10, Nat.reduceAdd, Nat.reduceMul, Nat.reduceEqDiff, Nat.reduceLeDiff, Nat.reduceLT, Int.reduceToNat, Int.reduceLT, Int.reduceLE, Int.reduceEq, Int.reduceNeg, Int.reduceAdd, Int.reduceSub, Int.reduceMul, reduceIte]
      rw [call_ob_v (by rfl) (by rfl) rfl rfl (next_ev text i2 b2 hle.2 hl) rfl rfl (show 1 ≤ 4 by decide)]
      have hle3 := nxM_le b2 hle.2
      generalize nxM text i2 b2 = g at hle3 ⊢
      obtain ⟨sg, i3, b3⟩ := g
      simp only at hle3 ⊢
      have ht : decide (findFrom sg 0 [43, 42, 94, 45, 61, 60, 64] < 0) = !isTwo sg := findFrom_hasnt sg _ 0
      simp only [IA, PA, RA0, RA1, RA2, RA3, RA4, RA5, RA6, RA7, RA8, RA9, RA10, Nat.reduceAdd, Nat.reduceMul, Nat.reduceEqDiff, Nat.reduceLeDiff, Nat.reduceLT, Int.reduceToNat, Int.reduceLT, Int.reduceLE, Int.reduceEq, Int.reduceNeg, Int.reduceAdd, Int.reduceSub, Int.reduceMul, reduceIte]
      cases b3
      case' false =>
        simp only [IA, PA, RA0, RA1, RA2, RA3, RA4, RA5, RA6, RA7, RA8, RA9, RA10, Nat.reduceAdd, Nat.reduceMul, Nat.reduceEqDiff, Nat.reduceLeDiff, Nat.reduceLT, Int.reduceToNat, Int.reduceLT, Int.reduceLE, Int.reduceEq, Int.reduceNeg, Int.reduceAdd, Int.reduceSub, Int.reduceMul, reduceIte]
        rw [l13Find_ev _ sg (by decide)]
        simp only [ht, IA, PA, RA0, RA1, RA2, RA3, RA4, RA5, RA6, RA7, RA8, RA9, RA10, Nat.reduceAdd, Nat.reduceMul, Nat.reduceEqDiff, Nat.reduceLeDiff, Nat.reduceLT, Int.reduceToNat, Int.reduceLT, Int.reduceLE, Int.reduceEq, Int.reduceNeg, Int.reduceAdd, Int.reduceSub, Int.reduceMul, reduceIte]
        generalize hb4 : (!isTwo sg) = b4
        rw [call_ob_v (by rfl) (by rfl) rfl rfl (hpart i3 b4 hle3.2 fun _ => by omega) rfl (partM_ok text n i3 b4 hle3.2).1.cl (show 1 ≤ 4 by decide)]
        have hok2 := (partM_ok text n i3 b4 hle3.2).1
        have hle4 := (partM_ok text n i3 b4 hle3.2).2
        generalize partM text n i3 b4 = y at hok2 hle4 ⊢
      case' true =>
        simp only [IA, PA, RA0, RA1, RA2, RA3, RA4, RA5, RA6, RA7, RA8, RA9, RA10, Nat.reduceAdd, Nat.reduceMul, Nat.reduceEqDiff, Nat.reduceLeDiff, Nat.reduceLT, Int.reduceToNat, Int.reduceLT, Int.reduceLE, Int.reduceEq, Int.reduceNeg, Int.reduceAdd, Int.reduceSub, Int.reduceMul, reduceIte]
        rw [call_ob_v (by rfl) (by rfl) rfl rfl (hpart i3 true hle3.2 fun _ => by omega) rfl (partM_ok text n i3 true hle3.2).1.cl (show 1 ≤ 4 by decide)]
        have hok2 := (partM_ok text n i3 true hle3.2).1
        have hle4 := (partM_ok text n i3 true hle3.2).2
        generalize partM text n i3 true = y at hok2 hle4 ⊢
      all_goals
        obtain ⟨zy, i4, b5⟩ := y
        simp only at hok2 hle4 ⊢
        have hyl := hok2.len
        have hyc := hok2.cl
        have hyf := hok2.lf
        have t1 : z.take 3 = z := List.take_of_length_le (by omega)
        have t2 : zy.take 3 = zy := List.take_of_length_le (by omega)
        have hcl : goes (.a [U sg, U 0, .s true 2 (z ++ zy)]) = true := by simp only [goes, closed, closedL, closedL_append, hzc, hyc, Bool.and_self]
        cases b5
        · simp only [hyl, hyf, IA, PA, RA0, RA1, RA2, RA3, RA4, RA5, RA6, RA7, RA8, RA9, RA10, Nat.reduceAdd, Nat.reduceMul, Nat.reduceEqDiff, Nat.reduceLeDiff, Nat.reduceLT, Int.reduceToNat, Int.reduceLT, Int.reduceLE, Int.reduceEq, Int.reduceNeg, Int.reduceAdd, Int.reduceSub, Int.reduceMul, reduceIte]
          rw [call_ob_v (by rfl) (by rfl) rfl rfl (show EE 77 [rdr text i4 false, .v (.int .u8 41)] = some (.t [.t [], .t [rdr text (isM text i4 false 41).1 (isM text i4 false 41).2, .v (.int .u8 41)]]) from is_ev text i4 false 41 hle4.2 hl) rfl rfl (show 0 ≤ 4 by decide)]
          simp only [hzl, hyl, t1, t2, Nat.le_refl, IA, PA, RA0, RA1, RA2, RA3, RA4, RA5, RA6, RA7, RA8, RA9, RA10, Nat.reduceAdd, Nat.reduceMul, Nat.reduceEqDiff, Nat.reduceLeDiff, Nat.reduceLT, Int.reduceToNat, Int.reduceLT, Int.reduceLE, Int.reduceEq, Int.reduceNeg, Int.reduceAdd, Int.reduceSub, Int.reduceMul, reduceIte]
          refine out_one (x := .a [U sg, U 0, .s true 2 (z ++ zy)]) ?_ hcl (by rfl) rfl rfl
          simp only [IA, PA, RA0, RA1, RA2, RA3, RA4, RA5, RA6, RA7, RA8, RA9, RA10, Nat.reduceAdd, Nat.reduceMul, Nat.reduceEqDiff, Nat.reduceLeDiff, Nat.reduceLT, Int.reduceToNat, Int.reduceLT, Int.reduceLE, Int.reduceEq, Int.reduceNeg, Int.reduceAdd, Int.reduceSub, Int.reduceMul, reduceIte]
          rfl
        · simp only [hzl, hyl, hyf, t1, t2, Nat.le_refl, IA, PA, RA0, RA1, RA2, RA3, RA4, RA5, RA6, RA7, RA8, RA9, RA10, Nat.reduceAdd, Nat.reduceMul, Nat.reduceEqDiff, Nat.reduceLeDiff, Nat.reduceLT, Int.reduceToNat, Int.reduceLT, Int.reduceLE, Int.reduceEq, Int.reduceNeg, Int.reduceAdd, Int.reduceSub, Int.reduceMul, reduceIte]
          refine out_one (x := .a [U sg, U 0, .s true 2 (z ++ zy)]) ?_ hcl (by rfl) rfl rfl
          simp only [IA, PA, RA0, RA1, RA2, RA3, RA4, RA5, RA6, RA7, RA8, RA9, RA10, Nat.reduceAdd, Nat.reduceMul, Nat.reduceEqDiff, Nat.reduceLeDiff, Nat.reduceLT, Int.reduceToNat, Int.reduceLT, Int.reduceLE, Int.reduceEq, Int.reduceNeg, Int.reduceAdd, Int.reduceSub, Int.reduceMul, reduceIte]
          rfl
    by_cases hc2 : c = 91 ∨ c = 123
    case neg =>
      have e1 : decide (c = 91) = false := by simpa using fun e => hc2 (.inl e)
      have e2 : decide (c = 123) = false := by simpa using fun e => hc2 (.inr e)
      have e3 : decide (c = 40) = false := by simpa using hc
      simp only [findFrom_has, h3, h4, e40, e91, e123, e1, e2, e3, hc, hc2, IA, PA, RA0, RA1, RA2, RA3, RA4, RA5, RA6, RA7, RA8, RA9, RA10, Nat.reduceAdd, Nat.reduceMul, Nat.reduceEqDiff, Nat.reduceLeDiff, Nat.reduceLT, Int.reduceToNat, Int.reduceLT, Int.reduceLE, Int.reduceEq, Int.reduceNeg, Int.reduceAdd, Int.reduceSub, Int.reduceMul, reduceIte]
      refine out_one (x := .a zc) ?_ rfl (by rfl) rfl rfl
      simp only [IA, PA, RA0, RA1, RA2, RA3, RA4, RA5, RA6, RA7, RA8, RA9, RA10, Nat.reduceAdd, Nat.reduceMul, Nat.reduceEqDiff, Nat.reduceLeDiff, Nat.reduceLT, Int.reduceToNat, Int.reduceLT, Int.reduceLE, Int.reduceEq, Int.reduceNeg, Int.reduceAdd, Int.reduceSub, Int.reduceMul, reduceIte]
      rfl
    have hc0 : c ≠ 0 := by rcases hc2 with rfl | rfl <;> decide
    obtain ⟨hi1, rfl⟩ := hsome hc0
    have hcs : decide (c = 40) = false ∧ IntKind.u8.wrap ((c.toNat : Int) + 2) = ((c + 2).toNat : Int) := by
      rcases hc2 with rfl | rfl
      · exact ⟨rfl, rfl⟩
      · exact ⟨rfl, rfl⟩
    obtain ⟨e3, hw⟩ := hcs
    have hbr : (decide (c = 91) || decide (c = 123)) = true := by simpa using hc2
    generalize hb1 : decide (c = 91) = bb1 at hbr
    generalize hb2 : decide (c = 123) = bb2 at hbr
    have hb3 : bb1 = false → bb2 = true := by rintro rfl; simpa using hbr
    clear hbr
    have hle2 := nxM_le false hq1.2
    have hnx := next_ev text i1 false hq1.2 hl
    have hnx2 : (nxM text i1 false).2.2 = false → i1 < (nxM text i1 false).2.1 := fun h => by
      cases hc3 : text[i1]? with
      | none => rw [nxM_none false hc3] at h; cases h
      | some d => rw [nxM_some false hc3]; exact Nat.lt_succ_self i1
    simp only [findFrom_has, h3, h4, e40, e91, e123, e3, hc, hc2, IA, PA, RA0, RA1, RA2, RA3, RA4, RA5, RA6, RA7, RA8, RA9, RA10, Nat.reduceAdd, Nat.reduceMul, Nat.reduceEqDiff, Nat.reduceLeDiff, Nat.reduceLT, Int.reduceToNat, Int.reduceLT, Int.reduceLE, Int.reduceEq, Int.reduceNeg, Int.reduceAdd, Int.reduceSub, Int.reduceMul, reduceIte]
    generalize nxM text i1 false = g at hle2 hnx hnx2 ⊢
    obtain ⟨nm, i2, b2⟩ := g
    simp only at hle2 hnx hnx2 ⊢
    have fin : ∀ (x : List AV) (y : List AV), NodeOk x → NodeOk y → goes (.a [U c, U nm, .s true 2 (x ++ y)]) = true := fun x y h1 h2 => by simp only [goes, closed, closedL, closedL_append, h1.cl, h2.cl, Bool.and_self]
    cases bb1
    case' false => obtain rfl := hb3 rfl
    all_goals
      simp only [e91, e123, hb1, hb2, IA, PA, RA0, RA1, RA2, RA3, RA4, RA5, RA6, RA7, RA8, RA9, RA10, Nat.reduceAdd, Nat.reduceMul, Nat.reduceEqDiff, Nat.reduceLeDiff, Nat.reduceLT, Int.reduceToNat, Int.reduceLT, Int.reduceLE, Int.reduceEq, Int.reduceNeg, Int.reduceAdd, Int.reduceSub, Int.reduceMul, reduceIte]
      rw [call_ob_v (by rfl) (by rfl) rfl rfl hnx rfl rfl (show 1 ≤ 4 by decide)]
      simp only [IA, PA, RA0, RA1, RA2, RA3, RA4, RA5, RA6, RA7, RA8, RA9, RA10, Nat.reduceAdd, Nat.reduceMul, Nat.reduceEqDiff, Nat.reduceLeDiff, Nat.reduceLT, Int.reduceToNat, Int.reduceLT, Int.reduceLE, Int.reduceEq, Int.reduceNeg, Int.reduceAdd, Int.reduceSub, Int.reduceMul, reduceIte]
      cases b2
      case' false =>
        simp only [l1In_ev, in_lv, wrap_u8, IA, PA, RA0, RA1, RA2, RA3, RA4, RA5, RA6, RA7, RA8, RA9, RA10, Nat.reduceAdd, Nat.reduceMul, Nat.reduceEqDiff, Nat.reduceLeDiff, Nat.reduceLT, Int.reduceToNat, Int.reduceLT, Int.reduceLE, Int.reduceEq, Int.reduceNeg, Int.reduceAdd, Int.reduceSub, Int.reduceMul, reduceIte]
        generalize hb4 : (!isLV nm) = b4
        have hlt : i2 ≤ i2 := Nat.le_refl _
        have his := is_ev text i2 b4 58 hle2.2 hl
        have hle3 := isM_le (text := text) b4 58 hle2.2
        rw [call_ob_v (by rfl) (by rfl) rfl rfl (show EE 77 [rdr text i2 b4, .v (.int .u8 58)] = some (.t [.t [], .t [rdr text (isM text i2 b4 58).1 (isM text i2 b4 58).2, .v (.int .u8 58)]]) from his) rfl rfl (show 0 ≤ 4 by decide)]
        generalize isM text i2 b4 58 = c1 at hle3 ⊢
      case' true =>
        simp only [IA, PA, RA0, RA1, RA2, RA3, RA4, RA5, RA6, RA7, RA8, RA9, RA10, Nat.reduceAdd, Nat.reduceMul, Nat.reduceEqDiff, Nat.reduceLeDiff, Nat.reduceLT, Int.reduceToNat, Int.reduceLT, Int.reduceLE, Int.reduceEq, Int.reduceNeg, Int.reduceAdd, Int.reduceSub, Int.reduceMul, reduceIte]
        have his := is_ev text i2 true 58 hle2.2 hl
        have hle3 := isM_le (text := text) true 58 hle2.2
        rw [call_ob_v (by rfl) (by rfl) rfl rfl (show EE 77 [rdr text i2 true, .v (.int .u8 58)] = some (.t [.t [], .t [rdr text (isM text i2 true 58).1 (isM text i2 true 58).2, .v (.int .u8 58)]]) from his) rfl rfl (show 0 ≤ 4 by decide)]
        generalize isM text i2 true 58 = c1 at hle3 ⊢
      all_goals
        obtain ⟨i3, b3⟩ := c1
        simp only at hle3
        simp only [IA, PA, RA0, RA1, RA2, RA3, RA4, RA5, RA6, RA7, RA8, RA9, RA10, Nat.reduceAdd, Nat.reduceMul, Nat.reduceEqDiff, Nat.reduceLeDiff, Nat.reduceLT, Int.reduceToNat, Int.reduceLT, Int.reduceLE, Int.reduceEq, Int.reduceNeg, Int.reduceAdd, Int.reduceSub, Int.reduceMul, reduceIte]
        have hok := (partM_ok text n i3 b3 hle3.2).1
        have hle4 := (partM_ok text n i3 b3 hle3.2).2
        rw [call_ob_v (by rfl) (by rfl) rfl rfl (hpart i3 b3 hle3.2 fun _ => by omega) rfl hok.cl (show 1 ≤ 4 by decide)]
        generalize partM text n i3 b3 = x at hok hle4 ⊢
        obtain ⟨z, i4, b4⟩ := x
        simp only at hok hle4
        have hzl := hok.len
        have hzc := hok.cl
        have hzf := hok.lf
        simp only [hzl, hzf, IA, PA, RA0, RA1, RA2, RA3, RA4, RA5, RA6, RA7, RA8, RA9, RA10, Nat.reduceAdd, Nat.reduceMul, Nat.reduceEqDiff, Nat.reduceLeDiff, Nat.reduceLT, Int.reduceToNat, Int.reduceLT, Int.reduceLE, Int.reduceEq, Int.reduceNeg, Int.reduceAdd, Int.reduceSub, Int.reduceMul, reduceIte]
        have his2 := is_ev text i4 b4 62 hle4.2 hl
        have hle5 := isM_le (text := text) b4 62 hle4.2
        rw [call_ob_v (by rfl) (by rfl) rfl rfl (show EE 77 [rdr text i4 b4, .v (.int .u8 62)] = some (.t [.t [], .t [rdr text (isM text i4 b4 62).1 (isM text i4 b4 62).2, .v (.int .u8 62)]]) from his2) rfl rfl (show 0 ≤ 4 by decide)]
        generalize isM text i4 b4 62 = c2 at hle5 ⊢
        obtain ⟨i5, b5⟩ := c2
        simp only at hle5
        simp only [IA, PA, RA0, RA1, RA2, RA3, RA4, RA5, RA6, RA7, RA8, RA9, RA10, Nat.reduceAdd, Nat.reduceMul, Nat.reduceEqDiff, Nat.reduceLeDiff, Nat.reduceLT, Int.reduceToNat, Int.reduceLT, Int.reduceLE, Int.reduceEq, Int.reduceNeg, Int.reduceAdd, Int.reduceSub, Int.reduceMul, reduceIte]
        have hok2 := (partM_ok text n i5 b5 hle5.2).1
        have hle6 := (partM_ok text n i5 b5 hle5.2).2
        rw [call_ob_v (by rfl) (by rfl) rfl rfl (hpart i5 b5 hle5.2 fun _ => by omega) rfl hok2.cl (show 1 ≤ 4 by decide)]
        generalize partM text n i5 b5 = y at hok2 hle6 ⊢
        obtain ⟨zy, i6, b6⟩ := y
        simp only at hok2 hle6
        have hyl := hok2.len
        have hyc := hok2.cl
        have hyf := hok2.lf
        have t1 : z.take 3 = z := List.take_of_length_le (by omega)
        have t2 : zy.take 3 = zy := List.take_of_length_le (by omega)
        have hcl := fin z zy hok hok2
        cases b6
        · simp only [hyl, hyf, hw, IA, PA, RA0, RA1, RA2, RA3, RA4, RA5, RA6, RA7, RA8, RA9, RA10, Nat.reduceAdd, Nat.reduceMul, Nat.reduceEqDiff, Nat.reduceLeDiff, Nat.reduceLT, Int.reduceToNat, Int.reduceLT, Int.reduceLE, Int.reduceEq, Int.reduceNeg, Int.reduceAdd, Int.reduceSub, Int.reduceMul, reduceIte]
          rw [call_ob_v (by rfl) (by rfl) rfl rfl (is_ev text i6 false (c + 2) hle6.2 hl) rfl rfl (show 0 ≤ 4 by decide)]
          simp only [hzl, hyl, t1, t2, Nat.le_refl, IA, PA, RA0, RA1, RA2, RA3, RA4, RA5, RA6, RA7, RA8, RA9, RA10, Nat.reduceAdd, Nat.reduceMul, Nat.reduceEqDiff, Nat.reduceLeDiff, Nat.reduceLT, Int.reduceToNat, Int.reduceLT, Int.reduceLE, Int.reduceEq, Int.reduceNeg, Int.reduceAdd, Int.reduceSub, Int.reduceMul, reduceIte]
          refine out_one (x := .a [U c, U nm, .s true 2 (z ++ zy)]) ?_ hcl (by rfl) rfl rfl
          simp only [IA, PA, RA0, RA1, RA2, RA3, RA4, RA5, RA6, RA7, RA8, RA9, RA10, Nat.reduceAdd, Nat.reduceMul, Nat.reduceEqDiff, Nat.reduceLeDiff, Nat.reduceLT, Int.reduceToNat, Int.reduceLT, Int.reduceLE, Int.reduceEq, Int.reduceNeg, Int.reduceAdd, Int.reduceSub, Int.reduceMul, reduceIte]
        · simp only [hzl, hyl, hyf, t1, t2, Nat.le_refl, IA, PA, RA0, RA1, RA2, RA3, RA4, RA5, RA6, RA7, RA8, RA9, RA10, Nat.reduceAdd, Nat.reduceMul, Nat.reduceEqDiff, Nat.reduceLeDiff, Nat.reduceLT, Int.reduceToNat, Int.reduceLT, Int.reduceLE, Int.reduceEq, Int.reduceNeg, Int.reduceAdd, Int.reduceSub, Int.reduceMul, reduceIte]
          refine out_one (x := .a [U c, U nm, .s true 2 (z ++ zy)]) ?_ hcl (by rfl) rfl rfl
          simp only [IA, PA, RA0, RA1, RA2, RA3, RA4, RA5, RA6, RA7, RA8, RA9, RA10, Nat.reduceAdd, Nat.reduceMul, Nat.reduceEqDiff, Nat.reduceLeDiff, Nat.reduceLT, Int.reduceToNat, Int.reduceLT, Int.reduceLE, Int.reduceEq, Int.reduceNeg, Int.reduceAdd, Int.reduceSub, Int.reduceMul, reduceIte]
end
end Go.Proofs.YtkilalabmbdmkaaDoor.Ev

/-
Reading a term: both readers give the term that the text begins with.
-/
namespace Go.Proofs.YtkilalabmbdmkaaDoor.Ev
section
set_option linter.unusedVariables false
set_option linter.unusedSimpArgs false
open Go Go.RowKit
set_option linter.unusedVariables false
set_option linter.unusedSimpArgs false

theorem drop_cons {text : List UInt8} {i : Nat} {c : UInt8} {s : List UInt8} (h : text.drop i = c :: s) : text[i]? = some c ∧ text.drop (i + 1) = s ∧ i < text.length := by
  have h1 : i < text.length := by
    rcases Nat.lt_or_ge i text.length with h2 | h2
    · exact h2
    · rw [List.drop_eq_nil_of_le h2] at h; cases h
  refine ⟨?_, ?_, h1⟩
  · have : (text.drop i)[0]? = some c := by rw [h]; rfl
    simpa using this
  · have : (text.drop i).drop 1 = s := by rw [h]; rfl
    simpa [List.drop_drop] using this
theorem nx_cons {text : List UInt8} {i : Nat} {c : UInt8} {s : List UInt8} (b : Bool) (h : text.drop i = c :: s) : nxM text i b = (c, i + 1, b) := nxM_some b (drop_cons h).1
theorem nx_nil {text : List UInt8} {i : Nat} (b : Bool) (h : text.drop i = []) : nxM text i b = (0, i, true) := nxM_none b (List.getElem?_eq_none (by simpa using h))
theorem nx_bad (text : List UInt8) (i : Nat) : (nxM text i true).2.2 = true := by
  unfold nxM
  split <;> rfl
theorem is_bad (text : List UInt8) (i : Nat) (c : UInt8) : (isM text i true c).2 = true := by
  unfold isM
  rw [nx_bad]
  simp
theorem is_cons {text : List UInt8} {i : Nat} {d : UInt8} {s : List UInt8} (b : Bool) (c : UInt8) (h : text.drop i = d :: s) : isM text i b c = (i + 1, !decide (d = c) || b) := by
  unfold isM
  rw [nx_cons b h]
theorem is_nil {text : List UInt8} {i : Nat} (b : Bool) (c : UInt8) (h : text.drop i = []) : (isM text i b c).2 = true := by
  unfold isM
  rw [nx_nil b h]
  simp
theorem part_bad (text : List UInt8) (n i : Nat) : partM text n i true = (zc, i, true) := rfl
theorem part_good (text : List UInt8) (n i : Nat) : partM text n i false = nodeM text n i false := rfl

/-- What the reference's reader does, by what the text begins with. -/
def Reads (text : List UInt8) (q : List AV × Nat × Bool) : Option (T × List UInt8) → Prop
  | some (t, r) => q = (encN t, text.length - r.length, false) ∧ text.drop (text.length - r.length) = r ∧ r.length ≤ text.length
  | none => q.2.2 = true
theorem dig_not_var {c : UInt8} (h : isDig c = true) : isVar c = false := by
  rw [isVar_cases]
  simp only [isDig, isLV, Bool.and_eq_true, decide_eq_true_iff] at h ⊢
  simp only [Bool.or_eq_false_iff, decide_eq_false_iff_not, ← UInt8.toNat_inj, Bool.and_eq_false_iff]
  refine ⟨?_, ?_, .inl ?_⟩
  · show ¬ c.toNat = 97; omega
  · show ¬ c.toNat = 98; omega
  · omega
theorem len_drop {text : List UInt8} {i : Nat} {s : List UInt8} (h : text.drop i = s) (hi : i ≤ text.length) : text.length = i + s.length := by
  have := congrArg List.length h
  rw [List.length_drop] at this
  omega

theorem nodeM_rd (text : List UInt8) : ∀ (n i : Nat), i ≤ text.length → Reads text (nodeM text n i false) (rd n (text.drop i)) := by
  intro n
  induction n with
  | zero => intro i _; exact rfl
  | succ n ih =>
    intro i hi
    have hsub : ∀ (j : Nat) (r : List UInt8), text.drop j = r → r.length ≤ text.length → j ≤ text.length → Reads text (nodeM text n j false) (rd n r) := fun j r h1 _ h3 => h1 ▸ ih j h3
    rw [nodeM_succ]
    cases hs : text.drop i with
    | nil =>
      rw [nx_nil false hs]
      exact rfl
    | cons c s =>
      obtain ⟨_, hd, hlt⟩ := drop_cons hs
      have hlen := len_drop hs hi
      simp only [List.length_cons] at hlen
      rw [nx_cons false hs]
      simp only [rd]
      have leaf : text.drop (text.length - s.length) = s ∧ i + 1 = text.length - s.length ∧ s.length ≤ text.length := by
        have e : text.length - s.length = i + 1 := by omega
        exact ⟨by rw [e]; exact hd, e.symm, by omega⟩
      by_cases h1 : isDig c = true
      · rw [if_pos h1, dig_not_var h1, if_neg (by simp), if_pos h1]
        exact ⟨by rw [leaf.2.1]; rfl, leaf.1, leaf.2.2⟩
      rw [if_neg h1]
      by_cases h2 : isVar c = true
      · rw [if_pos h2, if_pos h2]
        exact ⟨by rw [leaf.2.1]; rfl, leaf.1, leaf.2.2⟩
      rw [if_neg h2, if_neg h2, if_neg h1]
      have hx := hsub (i + 1) s hd (by omega) (by omega)
      by_cases h3 : isOne c = true
      · rw [if_pos h3, if_pos h3, part_good]
        cases hq : rd n s with
        | none =>
          rw [hq] at hx
          exact hx
        | some q =>
          obtain ⟨t, r⟩ := q
          rw [hq] at hx
          obtain ⟨e1, e2, e3⟩ := hx
          rw [e1]
          exact ⟨rfl, e2, e3⟩
      rw [if_neg h3, if_neg h3]
      by_cases h4 : c = 40
      · rw [if_pos h4, if_pos h4, part_good]
        simp only [rdTwo]
        cases hq : rd n s with
        | none =>
          rw [hq] at hx
          have hb : (nodeM text n (i + 1) false).2.2 = true := hx
          simp only [Reads, hb, nx_bad, Bool.true_or, part_bad, if_true]
        | some q =>
          obtain ⟨t, r⟩ := q
          rw [hq] at hx
          obtain ⟨e1, e2, e3⟩ := hx
          rw [e1]
          simp only
          cases r with
          | nil =>
            rw [nx_nil false e2]
            simp only [Reads, Bool.true_or, part_bad, if_true]
          | cons g r2 =>
            obtain ⟨_, e4, e5⟩ := drop_cons e2
            rw [nx_cons false e2]
            simp only [Bool.false_or, List.length_cons] at e3 e4 e5 ⊢
            by_cases h5 : isTwo g = true
            · simp only [h5, Bool.not_true, part_good, if_true]
              have hy := hsub _ r2 e4 (by omega) (by omega)
              cases hq2 : rd n r2 with
              | none =>
                rw [hq2] at hy
                have hb : (nodeM text n (text.length - (r2.length + 1) + 1) false).2.2 = true := hy
                simp only [Reads, hb, if_true]
              | some q2 =>
                obtain ⟨t2, r3⟩ := q2
                rw [hq2] at hy
                obtain ⟨f1, f2, f3⟩ := hy
                rw [f1]
                simp only [Bool.false_eq_true, if_false]
                cases r3 with
                | nil =>
                  simp only [Reads]
                  exact is_nil false 41 f2
                | cons z r4 =>
                  obtain ⟨_, f4, f5⟩ := drop_cons f2
                  simp only [List.length_cons] at f3 f4 f5 ⊢
                  simp only [List.length_cons] at f2
                  rw [is_cons false 41 f2]
                  by_cases h6 : z = 41
                  · have e : text.length - (r4.length + 1) + 1 = text.length - r4.length := by omega
                    rw [if_pos h6]
                    refine ⟨?_, by rw [← e]; exact f4, by omega⟩
                    rw [h6, e]
                    rfl
                  · rw [if_neg h6]
                    simp only [Reads, h6, decide_false, Bool.not_false, Bool.true_or]
            · simp only [h5, Bool.not_false, part_bad, if_true, Reads, if_false, Bool.false_eq_true]
      rw [if_neg h4, if_neg h4]
      by_cases h5 : c = 91 ∨ c = 123
      case neg =>
        rw [if_neg h5, if_neg h5]
        exact rfl
      rw [if_pos h5, if_pos h5]
      simp only [rdLoop]
      cases s with
      | nil =>
        rw [nx_nil false hd]
        simp only [Reads, Bool.true_or, is_bad, part_bad, if_true]
      | cons v s2 =>
        obtain ⟨_, g1, g2⟩ := drop_cons hd
        rw [nx_cons false hd]
        simp only [Bool.false_or, List.length_cons] at hlen ⊢
        cases s2 with
        | nil =>
          have : (isM text (i + 1 + 1) (!isLV v) 58).2 = true := is_nil _ 58 g1
          simp only [Reads, this, is_bad, part_bad, if_true]
        | cons d r1 =>
          obtain ⟨_, g3, g4⟩ := drop_cons g1
          rw [is_cons _ 58 g1]
          simp only [List.length_cons] at hlen ⊢
          by_cases h6 : isLV v = true ∧ d = 58
          case neg =>
            have : (!decide (d = 58) || !isLV v) = true := by
              cases hv : isLV v with
              | false => simp
              | true => simp only [hv, true_and] at h6; simp [h6]
            simp only [Reads, this, is_bad, part_bad, if_true, h6, if_false]
          have hb0 : (!decide (d = 58) || !isLV v) = false := by rw [h6.1, h6.2]; rfl
          rw [if_pos h6]
          simp only [hb0, part_good]
          have hx := hsub (i + 1 + 1 + 1) r1 g3 (by omega) (by omega)
          cases hq : rd n r1 with
          | none =>
            rw [hq] at hx
            have hb : (nodeM text n (i + 1 + 1 + 1) false).2.2 = true := hx
            simp only [Reads, hb, is_bad, part_bad, if_true]
          | some q =>
            obtain ⟨t, r⟩ := q
            rw [hq] at hx
            obtain ⟨e1, e2, e3⟩ := hx
            rw [e1]
            simp only
            cases r with
            | nil =>
              have : (isM text (text.length - 0) false 62).2 = true := is_nil false 62 e2
              simp only [List.length_nil, Reads, this, part_bad, if_true]
            | cons g r2 =>
              obtain ⟨_, e4, e5⟩ := drop_cons e2
              simp only [List.length_cons] at e2 e3 e4 e5 ⊢
              rw [is_cons false 62 e2]
              by_cases h7 : g = 62
              case neg =>
                have : (!decide (g = 62) || false) = true := by simp [h7]
                rw [if_neg h7]
                simp only [Reads, this, part_bad, if_true]
              have hb1 : (!decide (g = 62) || false) = false := by simp [h7]
              rw [if_pos h7]
              simp only [hb1, part_good]
              have hy := hsub _ r2 e4 (by omega) (by omega)
              cases hq2 : rd n r2 with
              | none =>
                rw [hq2] at hy
                have hb : (nodeM text n (text.length - (r2.length + 1) + 1) false).2.2 = true := hy
                simp only [Reads, hb, if_true]
              | some q2 =>
                obtain ⟨t2, r3⟩ := q2
                rw [hq2] at hy
                obtain ⟨f1, f2, f3⟩ := hy
                rw [f1]
                simp only [Bool.false_eq_true, if_false]
                cases r3 with
                | nil =>
                  simp only [Reads]
                  exact is_nil false (c + 2) f2
                | cons z r4 =>
                  obtain ⟨_, f4, f5⟩ := drop_cons f2
                  simp only [List.length_cons] at f3 f4 f5 ⊢
                  simp only [List.length_cons] at f2
                  rw [is_cons false (c + 2) f2]
                  by_cases h8 : z = c + 2
                  · have e : text.length - (r4.length + 1) + 1 = text.length - r4.length := by omega
                    rw [if_pos h8]
                    refine ⟨?_, by rw [← e]; exact f4, by omega⟩
                    rw [h8, e]
                    simp [encN]
                  · rw [if_neg h8]
                    simp only [Reads, h8, decide_false, Bool.not_false, Bool.true_or]

/-- The term that a whole text is, if it is one and not too long. -/
def rdT (t : List UInt8) : Option T := if 80 < t.length then none else match rd (t.length + 1) t with | some (x, []) => some x | _ => none

theorem T_termOf : TT 30 = some (Tryd.f30, bodyOf Tryd.f30) := by kernel_rfl
theorem termOf_ev (t : List UInt8) (hl : t.length < 4611686018427387904) : EE 30 [S t] = some (match rdT t with | some x => encP x | none => nilP) := by
  refine EE_plain T_termOf (by decide) (Nat.le_of_ble_eq_true rfl) (by rfl) ?_
  rw [show opt 30 = [] from rfl]
  simp only [bodyOf, Tryd.f30, SA]
  by_cases h1 : 80 < t.length
  · have h2 : (80 : Int) < (t.length : Int) := by omega
    simp only [h1, h2, rdT, IA, PA, RA0, RA1, RA2, RA3, RA4, RA5, RA6, RA7, RA8, RA9, RA10, Nat.reduceAdd, Nat.reduceMul, Nat.reduceEqDiff, Nat.reduceLeDiff, Nat.reduceLT, Int.reduceToNat, Int.reduceLT, Int.reduceLE, Int.reduceEq, Int.reduceNeg, Int.reduceAdd, Int.reduceSub, Int.reduceMul, reduceIte]
  · have h2 : ¬ (80 : Int) < (t.length : Int) := by omega
    simp only [h1, h2, rdT, readTerm_ev (t.length + 1) t (Nat.lt_succ_self _) hl, IA, PA, RA0, RA1, RA2, RA3, RA4, RA5, RA6, RA7, RA8, RA9, RA10, Nat.reduceAdd, Nat.reduceMul, Nat.reduceEqDiff, Nat.reduceLeDiff, Nat.reduceLT, Int.reduceToNat, Int.reduceLT, Int.reduceLE, Int.reduceEq, Int.reduceNeg, Int.reduceAdd, Int.reduceSub, Int.reduceMul, reduceIte]
    cases hq : rd (t.length + 1) t with
    | none =>
      cases t with
      | nil => simp only [TMA, rdP, IA, PA, RA0, RA1, RA2, RA3, RA4, RA5, RA6, RA7, RA8, RA9, RA10, Nat.reduceAdd, Nat.reduceMul, Nat.reduceEqDiff, Nat.reduceLeDiff, Nat.reduceLT, Int.reduceToNat, Int.reduceLT, Int.reduceLE, Int.reduceEq, Int.reduceNeg, Int.reduceAdd, Int.reduceSub, Int.reduceMul, reduceIte]
      | cons c t => simp only [TMA, rdP, IA, PA, RA0, RA1, RA2, RA3, RA4, RA5, RA6, RA7, RA8, RA9, RA10, Nat.reduceAdd, Nat.reduceMul, Nat.reduceEqDiff, Nat.reduceLeDiff, Nat.reduceLT, Int.reduceToNat, Int.reduceLT, Int.reduceLE, Int.reduceEq, Int.reduceNeg, Int.reduceAdd, Int.reduceSub, Int.reduceMul, reduceIte]
    | some q =>
      obtain ⟨x, r⟩ := q
      cases r with
      | nil =>
        simp only [TMA, rdP, IA, PA, RA0, RA1, RA2, RA3, RA4, RA5, RA6, RA7, RA8, RA9, RA10, Nat.reduceAdd, Nat.reduceMul, Nat.reduceEqDiff, Nat.reduceLeDiff, Nat.reduceLT, Int.reduceToNat, Int.reduceLT, Int.reduceLE, Int.reduceEq, Int.reduceNeg, Int.reduceAdd, Int.reduceSub, Int.reduceMul, reduceIte]
        have := encP_closed x
        cases x <;> exact giveAll_p this
      | cons c r => simp only [TMA, rdP, IA, PA, RA0, RA1, RA2, RA3, RA4, RA5, RA6, RA7, RA8, RA9, RA10, Nat.reduceAdd, Nat.reduceMul, Nat.reduceEqDiff, Nat.reduceLeDiff, Nat.reduceLT, Int.reduceToNat, Int.reduceLT, Int.reduceLE, Int.reduceEq, Int.reduceNeg, Int.reduceAdd, Int.reduceSub, Int.reduceMul, reduceIte]

theorem T_l5Read : TT 28 = some (Tryd.f28, bodyOf Tryd.f28) := by kernel_rfl
theorem l5Read_ev (t : List UInt8) (hl : t.length < 4611686018427387904) : EE 28 [S t] = some (match rdT t with | some x => .t [.a (encN x), B true] | none => .t [.a zc, B false]) := by
  refine EE_plain T_l5Read (by decide) (Nat.le_of_ble_eq_true rfl) (by rfl) ?_
  rw [show opt 28 = [] from rfl]
  simp only [bodyOf, Tryd.f28, SA]
  simp only [IA, PA, RA0, RA1, RA2, RA3, RA4, RA5, RA6, RA7, RA8, RA9, RA10, Nat.reduceAdd, Nat.reduceMul, Nat.reduceEqDiff, Nat.reduceLeDiff, Nat.reduceLT, Int.reduceToNat, Int.reduceLT, Int.reduceLE, Int.reduceEq, Int.reduceNeg, Int.reduceAdd, Int.reduceSub, Int.reduceMul, reduceIte]
  have hn := node_ev t hl (t.length + 1) 0 (Nat.zero_le _) (by omega)
  have hr := nodeM_rd t (t.length + 1) 0 (Nat.zero_le _)
  have hok := (nodeM_ok t (t.length + 1) 0 false (Nat.zero_le _)).1
  rw [List.drop_zero] at hr
  rw [call_ob_v (by rfl) (by rfl) rfl rfl (show EE 47 [lent 63 [S t, .v (.int .i64 0), .v (.bool false)]] = _ from hn) rfl hok.cl (show 1 ≤ 4 by decide)]
  generalize nodeM t (t.length + 1) 0 false = x at hr hok
  obtain ⟨z, i, b⟩ := x
  simp only at hok
  have hzl := hok.len
  have hzf := hok.lf
  have t1 : z.take 3 = z := List.take_of_length_le (by omega)
  simp only [hzl, hzf, IA, PA, RA0, RA1, RA2, RA3, RA4, RA5, RA6, RA7, RA8, RA9, RA10, Nat.reduceAdd, Nat.reduceMul, Nat.reduceEqDiff, Nat.reduceLeDiff, Nat.reduceLT, Int.reduceToNat, Int.reduceLT, Int.reduceLE, Int.reduceEq, Int.reduceNeg, Int.reduceAdd, Int.reduceSub, Int.reduceMul, reduceIte]
  have hrd : rdT t = if 80 < t.length then none else match rd (t.length + 1) t with | some (x, []) => some x | _ => none := rfl
  cases hq : rd (t.length + 1) t with
  | none =>
    rw [hq] at hr hrd
    obtain rfl : b = true := hr
    have h0 : rdT t = none := by rw [hrd]; split <;> rfl
    simp only [h0, give_two, IA, PA, RA0, RA1, RA2, RA3, RA4, RA5, RA6, RA7, RA8, RA9, RA10, Nat.reduceAdd, Nat.reduceMul, Nat.reduceEqDiff, Nat.reduceLeDiff, Nat.reduceLT, Int.reduceToNat, Int.reduceLT, Int.reduceLE, Int.reduceEq, Int.reduceNeg, Int.reduceAdd, Int.reduceSub, Int.reduceMul, reduceIte]
    rfl
  | some q =>
    obtain ⟨tm, r⟩ := q
    rw [hq] at hr hrd
    obtain ⟨e1, e2, e3⟩ := hr
    simp only [Prod.mk.injEq] at e1
    obtain ⟨rfl, rfl, rfl⟩ := e1
    cases r with
    | cons c r =>
      have h0 : rdT t = none := by rw [hrd]; split <;> rfl
      have h1 : ¬ (((t.length - (r.length + 1) : Nat) : Int) = (t.length : Int)) := by
        simp only [List.length_cons] at e3
        omega
      simp only [h0, h1, give_two, IA, PA, RA0, RA1, RA2, RA3, RA4, RA5, RA6, RA7, RA8, RA9, RA10, Nat.reduceAdd, Nat.reduceMul, Nat.reduceEqDiff, Nat.reduceLeDiff, Nat.reduceLT, Int.reduceToNat, Int.reduceLT, Int.reduceLE, Int.reduceEq, Int.reduceNeg, Int.reduceAdd, Int.reduceSub, Int.reduceMul, reduceIte]
      rfl
    | nil =>
      by_cases h2 : 80 < t.length
      · have h0 : rdT t = none := by rw [hrd, if_pos h2]
        have h3 : (80 : Int) < (t.length : Int) := by omega
        simp only [h0, h3, Nat.sub_zero, give_two, IA, PA, RA0, RA1, RA2, RA3, RA4, RA5, RA6, RA7, RA8, RA9, RA10, Nat.reduceAdd, Nat.reduceMul, Nat.reduceEqDiff, Nat.reduceLeDiff, Nat.reduceLT, Int.reduceToNat, Int.reduceLT, Int.reduceLE, Int.reduceEq, Int.reduceNeg, Int.reduceAdd, Int.reduceSub, Int.reduceMul, reduceIte]
        rfl
      · have h0 : rdT t = some tm := by rw [hrd, if_neg h2]
        have h3 : ¬ (80 : Int) < (t.length : Int) := by omega
        simp only [h0, h3, Nat.sub_zero, hzl, hzf, t1, give_two, encN_closed, Nat.le_refl, IA, PA, RA0, RA1, RA2, RA3, RA4, RA5, RA6, RA7, RA8, RA9, RA10, Nat.reduceAdd, Nat.reduceMul, Nat.reduceEqDiff, Nat.reduceLeDiff, Nat.reduceLT, Int.reduceToNat, Int.reduceLT, Int.reduceLE, Int.reduceEq, Int.reduceNeg, Int.reduceAdd, Int.reduceSub, Int.reduceMul, reduceIte]
end
end Go.Proofs.YtkilalabmbdmkaaDoor.Ev

/-
The instructions of a term: both lists are the same.
-/
namespace Go.Proofs.YtkilalabmbdmkaaDoor.Ev
section
set_option linter.unusedVariables false
set_option linter.unusedSimpArgs false
open Go Go.RowKit
set_option linter.unusedVariables false
set_option linter.unusedSimpArgs false

/-- The instructions of a term. -/
def listT : T → List (List UInt8)
  | .dig c => [[c]]
  | .var c => [[c]]
  | .one s x => listT x ++ [[s]]
  | .two s x y => listT x ++ listT y ++ [[s]]
  | .loop s v x y => listT x ++ [[s, v]] ++ listT y ++ [[s + 2]]
/-- Terms as they are read. -/
def WF : T → Prop
  | .dig c => isDig c = true
  | .var c => isVar c = true
  | .one s x => isOne s = true ∧ WF x
  | .two s x y => isTwo s = true ∧ WF x ∧ WF y
  | .loop s v x y => (s = 91 ∨ s = 123) ∧ isLV v = true ∧ WF x ∧ WF y
theorem rd_wf : ∀ (n : Nat) (s : List UInt8) (t : T) (r : List UInt8), rd n s = some (t, r) → WF t ∧ (listT t).length + r.length ≤ s.length := by
  intro n
  induction n with
  | zero => intro s t r h; cases h
  | succ n ih =>
    intro s t r h
    cases s with
    | nil => cases h
    | cons c s =>
      simp only [rd] at h
      split at h
      · rename_i hv
        simp only [Option.some.injEq, Prod.mk.injEq] at h; obtain ⟨rfl, rfl⟩ := h
        exact ⟨hv, by simp [listT]; omega⟩
      split at h
      · rename_i hv
        simp only [Option.some.injEq, Prod.mk.injEq] at h; obtain ⟨rfl, rfl⟩ := h
        exact ⟨hv, by simp [listT]; omega⟩
      split at h
      · rename_i hv
        split at h
        · rename_i x r1 h1
          simp only [Option.some.injEq, Prod.mk.injEq] at h; obtain ⟨rfl, rfl⟩ := h
          have := ih _ _ _ h1
          exact ⟨⟨hv, this.1⟩, by simp [listT]; omega⟩
        · cases h
      split at h
      · unfold rdTwo at h
        split at h
        · rename_i x q r2 h1
          split at h
          · rename_i hv
            split at h
            · rename_i y z r4 h2
              split at h
              · simp only [Option.some.injEq, Prod.mk.injEq] at h; obtain ⟨rfl, rfl⟩ := h
                have k1 := ih _ _ _ h1
                have k2 := ih _ _ _ h2
                refine ⟨⟨hv, k1.1, k2.1⟩, ?_⟩
                simp only [listT, List.length_append, List.length_cons, List.length_nil] at *
                omega
              · cases h
            · cases h
          · cases h
        · cases h
      split at h
      · rename_i hc
        unfold rdLoop at h
        split at h
        · rename_i v d r1
          split at h
          · rename_i hv
            split at h
            · rename_i x q r2 h1
              split at h
              · split at h
                · rename_i y z r4 h2
                  split at h
                  · simp only [Option.some.injEq, Prod.mk.injEq] at h; obtain ⟨rfl, rfl⟩ := h
                    have k1 := ih _ _ _ h1
                    have k2 := ih _ _ _ h2
                    refine ⟨⟨hc, hv.1, k1.1, k2.1⟩, ?_⟩
                    simp only [listT, List.length_append, List.length_cons, List.length_nil] at *
                    omega
                  · cases h
                · cases h
              · cases h
            · cases h
          · cases h
        · cases h
      · cases h
theorem rdT_wf {t : List UInt8} {x : T} (h : rdT t = some x) : WF x ∧ (listT x).length ≤ 80 ∧ t.length ≤ 80 := by
  unfold rdT at h
  split at h
  · cases h
  · rename_i hl
    split at h
    · rename_i y hy
      obtain rfl := Option.some.inj h
      have := rd_wf _ _ _ _ hy
      simp only [List.length_nil] at this
      exact ⟨this.1, by omega, by omega⟩
    · cases h

theorem T_instructions : TT 70 = some (Tryd.f70, bodyOf Tryd.f70) := by kernel_rfl
theorem loop_enc (t : T) : EE 55 [encP t] = some (B (match t with | .loop .. => true | _ => false)) := by
  cases t with
  | dig c => exact loop_ev _ _ _ rfl
  | var c => exact loop_ev _ _ _ rfl
  | one s x => exact loop_ev _ _ _ (by simp only [closed, closedL, encP_closed, Bool.and_self])
  | two s x y => exact loop_ev _ _ _ (by simp only [closed, closedL, encP_closed, Bool.and_self])
  | loop s v x y => exact loop_ev _ _ _ (by simp only [closed, closedL, encP_closed, Bool.and_self])
set_option maxHeartbeats 4000000 in
theorem instructions_ev : ∀ t, WF t → (listT t).length ≤ 1000000 → EE 70 [encP t] = some (.o 9 1 (listT t).length (strs (listT t))) := by
  intro t
  induction t with
  | dig c =>
    intro hw hb
    refine EE_few 3 T_instructions (by decide) (Nat.le_of_ble_eq_true rfl) (by simp only [closedL, encP_closed, Bool.and_self]) ?_
    rw [show opt 70 = [] from rfl]
    simp only [bodyOf, Tryd.f70, SA]
    have hl := loop_enc (.dig c)
    simp only [encP] at hl ⊢
    simp only [hl, rounds_rd, RR, IA, PA, RA0, RA1, RA2, RA3, RA4, RA5, RA6, RA7, RA8, RA9, RA10, Nat.reduceAdd, Nat.reduceMul, Nat.reduceEqDiff, Nat.reduceLeDiff, Nat.reduceLT, Int.reduceToNat, Int.reduceLT, Int.reduceLE, Int.reduceEq, Int.reduceNeg, Int.reduceAdd, Int.reduceSub, Int.reduceMul, reduceIte]
    rw [app_s (by decide) rfl rfl rfl (by omega) (by omega) (.inl (by decide))]
    simp only [RR, IA, PA, RA0, RA1, RA2, RA3, RA4, RA5, RA6, RA7, RA8, RA9, RA10, Nat.reduceAdd, Nat.reduceMul, Nat.reduceEqDiff, Nat.reduceLeDiff, Nat.reduceLT, Int.reduceToNat, Int.reduceLT, Int.reduceLE, Int.reduceEq, Int.reduceNeg, Int.reduceAdd, Int.reduceSub, Int.reduceMul, reduceIte]
    exact give_row (by rfl) rfl
  | var c =>
    intro hw hb
    refine EE_few 3 T_instructions (by decide) (Nat.le_of_ble_eq_true rfl) (by simp only [closedL, encP_closed, Bool.and_self]) ?_
    rw [show opt 70 = [] from rfl]
    simp only [bodyOf, Tryd.f70, SA]
    have hl := loop_enc (.var c)
    simp only [encP] at hl ⊢
    simp only [hl, rounds_rd, RR, IA, PA, RA0, RA1, RA2, RA3, RA4, RA5, RA6, RA7, RA8, RA9, RA10, Nat.reduceAdd, Nat.reduceMul, Nat.reduceEqDiff, Nat.reduceLeDiff, Nat.reduceLT, Int.reduceToNat, Int.reduceLT, Int.reduceLE, Int.reduceEq, Int.reduceNeg, Int.reduceAdd, Int.reduceSub, Int.reduceMul, reduceIte]
    rw [app_s (by decide) rfl rfl rfl (by omega) (by omega) (.inl (by decide))]
    simp only [RR, IA, PA, RA0, RA1, RA2, RA3, RA4, RA5, RA6, RA7, RA8, RA9, RA10, Nat.reduceAdd, Nat.reduceMul, Nat.reduceEqDiff, Nat.reduceLeDiff, Nat.reduceLT, Int.reduceToNat, Int.reduceLT, Int.reduceLE, Int.reduceEq, Int.reduceNeg, Int.reduceAdd, Int.reduceSub, Int.reduceMul, reduceIte]
    exact give_row (by rfl) rfl
  | one s x ih =>
    intro hw hb
    refine EE_few 3 T_instructions (by decide) (Nat.le_of_ble_eq_true rfl) (by simp only [closedL, encP_closed, Bool.and_self]) ?_
    rw [show opt 70 = [] from rfl]
    simp only [bodyOf, Tryd.f70, SA]
    simp only [listT, List.length_append, List.length_cons, List.length_nil] at hb
    have hl := loop_enc (.one s x)
    have hx := ih hw.2 (by omega)
    simp only [encP] at hl ⊢
    simp only [hl, hx, rounds_rd, scW_row, encP_closed, RR, IA, PA, RA0, RA1, RA2, RA3, RA4, RA5, RA6, RA7, RA8, RA9, RA10, Nat.reduceAdd, Nat.reduceMul, Nat.reduceEqDiff, Nat.reduceLeDiff, Nat.reduceLT, Int.reduceToNat, Int.reduceLT, Int.reduceLE, Int.reduceEq, Int.reduceNeg, Int.reduceAdd, Int.reduceSub, Int.reduceMul, reduceIte]
    rw [app_s (by decide) (by simp only [strs_len, Nat.mul_one]) (strs_leaf _) rfl (by omega) (by omega) (.inr rfl)]
    simp only [hl, rounds_rd, encP_closed, RR, IA, PA, RA0, RA1, RA2, RA3, RA4, RA5, RA6, RA7, RA8, RA9, RA10, Nat.reduceAdd, Nat.reduceMul, Nat.reduceEqDiff, Nat.reduceLeDiff, Nat.reduceLT, Int.reduceToNat, Int.reduceLT, Int.reduceLE, Int.reduceEq, Int.reduceNeg, Int.reduceAdd, Int.reduceSub, Int.reduceMul, reduceIte]
    rw [app_w (by rfl) (by decide) rfl rfl (by simp only [strs_len, Nat.mul_one]) (by omega) (by omega) (by decide)]
    simp only [strs_one, strs_append, RR, IA, PA, RA0, RA1, RA2, RA3, RA4, RA5, RA6, RA7, RA8, RA9, RA10, Nat.reduceAdd, Nat.reduceMul, Nat.reduceEqDiff, Nat.reduceLeDiff, Nat.reduceLT, Int.reduceToNat, Int.reduceLT, Int.reduceLE, Int.reduceEq, Int.reduceNeg, Int.reduceAdd, Int.reduceSub, Int.reduceMul, reduceIte]
    rw [give_row (by rfl) (strs_closed _)]
    simp only [listT, List.length_append, List.length_cons, List.length_nil]
  | two s x y ihx ihy =>
    intro hw hb
    refine EE_few 3 T_instructions (by decide) (Nat.le_of_ble_eq_true rfl) (by simp only [closedL, encP_closed, Bool.and_self]) ?_
    rw [show opt 70 = [] from rfl]
    simp only [bodyOf, Tryd.f70, SA]
    simp only [listT, List.length_append, List.length_cons, List.length_nil] at hb
    have hl := loop_enc (.two s x y)
    have hx := ihx hw.2.1 (by omega)
    have hy := ihy hw.2.2 (by omega)
    simp only [encP] at hl ⊢
    simp only [hl, hx, rounds_rd, scW_row, encP_closed, RR, IA, PA, RA0, RA1, RA2, RA3, RA4, RA5, RA6, RA7, RA8, RA9, RA10, Nat.reduceAdd, Nat.reduceMul, Nat.reduceEqDiff, Nat.reduceLeDiff, Nat.reduceLT, Int.reduceToNat, Int.reduceLT, Int.reduceLE, Int.reduceEq, Int.reduceNeg, Int.reduceAdd, Int.reduceSub, Int.reduceMul, reduceIte]
    rw [app_s (by decide) (by simp only [strs_len, Nat.mul_one]) (strs_leaf _) rfl (by omega) (by omega) (.inr rfl)]
    simp only [hl, hy, rounds_rd, scW_row, encP_closed, RR, IA, PA, RA0, RA1, RA2, RA3, RA4, RA5, RA6, RA7, RA8, RA9, RA10, Nat.reduceAdd, Nat.reduceMul, Nat.reduceEqDiff, Nat.reduceLeDiff, Nat.reduceLT, Int.reduceToNat, Int.reduceLT, Int.reduceLE, Int.reduceEq, Int.reduceNeg, Int.reduceAdd, Int.reduceSub, Int.reduceMul, reduceIte]
    rw [app_w (by rfl) (by decide) (by simp only [strs_len, Nat.mul_one]) (strs_leaf _) (by simp only [strs_len, Nat.mul_one]) (by omega) (by omega) (by decide)]
    simp only [hl, rounds_rd, encP_closed, RR, IA, PA, RA0, RA1, RA2, RA3, RA4, RA5, RA6, RA7, RA8, RA9, RA10, Nat.reduceAdd, Nat.reduceMul, Nat.reduceEqDiff, Nat.reduceLeDiff, Nat.reduceLT, Int.reduceToNat, Int.reduceLT, Int.reduceLE, Int.reduceEq, Int.reduceNeg, Int.reduceAdd, Int.reduceSub, Int.reduceMul, reduceIte]
    rw [app_w (by rfl) (by decide) rfl rfl (by simp only [List.length_append, strs_len, Nat.mul_one]) (by omega) (by omega) (by decide)]
    simp only [strs_one, strs_append, RR, IA, PA, RA0, RA1, RA2, RA3, RA4, RA5, RA6, RA7, RA8, RA9, RA10, Nat.reduceAdd, Nat.reduceMul, Nat.reduceEqDiff, Nat.reduceLeDiff, Nat.reduceLT, Int.reduceToNat, Int.reduceLT, Int.reduceLE, Int.reduceEq, Int.reduceNeg, Int.reduceAdd, Int.reduceSub, Int.reduceMul, reduceIte]
    rw [give_row (by rfl) (strs_closed _)]
    simp only [listT, List.length_append, List.length_cons, List.length_nil]
  | loop s v x y ihx ihy =>
    intro hw hb
    refine EE_few 3 T_instructions (by decide) (Nat.le_of_ble_eq_true rfl) (by simp only [closedL, encP_closed, Bool.and_self]) ?_
    rw [show opt 70 = [] from rfl]
    simp only [bodyOf, Tryd.f70, SA]
    simp only [listT, List.length_append, List.length_cons, List.length_nil] at hb
    have hl := loop_enc (.loop s v x y)
    have hx := ihx hw.2.2.1 (by omega)
    have hy := ihy hw.2.2.2 (by omega)
    have he : EE 61 [S [s]] = some (S [s + 2]) := by
      rw [ends_ev]
      rcases hw.1 with h | h <;> rw [h] <;> rfl
    simp only [encP] at hl ⊢
    simp only [hl, hx, rounds_rd, scW_row, encP_closed, RR, IA, PA, RA0, RA1, RA2, RA3, RA4, RA5, RA6, RA7, RA8, RA9, RA10, Nat.reduceAdd, Nat.reduceMul, Nat.reduceEqDiff, Nat.reduceLeDiff, Nat.reduceLT, Int.reduceToNat, Int.reduceLT, Int.reduceLE, Int.reduceEq, Int.reduceNeg, Int.reduceAdd, Int.reduceSub, Int.reduceMul, reduceIte]
    rw [app_s (by decide) (by simp only [strs_len, Nat.mul_one]) (strs_leaf _) rfl (by omega) (by omega) (.inr rfl)]
    simp only [hl, hy, str_add, rounds_rd, scW_row, encP_closed, RR, IA, PA, RA0, RA1, RA2, RA3, RA4, RA5, RA6, RA7, RA8, RA9, RA10, Nat.reduceAdd, Nat.reduceMul, Nat.reduceEqDiff, Nat.reduceLeDiff, Nat.reduceLT, Int.reduceToNat, Int.reduceLT, Int.reduceLE, Int.reduceEq, Int.reduceNeg, Int.reduceAdd, Int.reduceSub, Int.reduceMul, reduceIte]
    rw [app_w (by rfl) (by decide) rfl rfl (by simp only [strs_len, Nat.mul_one]) (by omega) (by omega) (by decide)]
    simp only [hl, hy, str_add, rounds_rd, scW_row, encP_closed, RR, IA, PA, RA0, RA1, RA2, RA3, RA4, RA5, RA6, RA7, RA8, RA9, RA10, Nat.reduceAdd, Nat.reduceMul, Nat.reduceEqDiff, Nat.reduceLeDiff, Nat.reduceLT, Int.reduceToNat, Int.reduceLT, Int.reduceLE, Int.reduceEq, Int.reduceNeg, Int.reduceAdd, Int.reduceSub, Int.reduceMul, reduceIte]
    rw [app_w (by rfl) (by decide) (by simp only [strs_len, Nat.mul_one]) (strs_leaf _) (by simp only [List.length_append, List.length_cons, List.length_nil, strs_len, Nat.mul_one]) (by omega) (by omega) (by decide)]
    simp only [hl, he, rounds_rd, encP_closed, RR, IA, PA, RA0, RA1, RA2, RA3, RA4, RA5, RA6, RA7, RA8, RA9, RA10, Nat.reduceAdd, Nat.reduceMul, Nat.reduceEqDiff, Nat.reduceLeDiff, Nat.reduceLT, Int.reduceToNat, Int.reduceLT, Int.reduceLE, Int.reduceEq, Int.reduceNeg, Int.reduceAdd, Int.reduceSub, Int.reduceMul, reduceIte]
    rw [app_w (by rfl) (by decide) rfl rfl (by simp only [List.length_append, List.length_cons, List.length_nil, strs_len, Nat.mul_one]) (by omega) (by omega) (by decide)]
    simp only [strs_one, strs_append, RR, IA, PA, RA0, RA1, RA2, RA3, RA4, RA5, RA6, RA7, RA8, RA9, RA10, Nat.reduceAdd, Nat.reduceMul, Nat.reduceEqDiff, Nat.reduceLeDiff, Nat.reduceLT, Int.reduceToNat, Int.reduceLT, Int.reduceLE, Int.reduceEq, Int.reduceNeg, Int.reduceAdd, Int.reduceSub, Int.reduceMul, reduceIte]
    rw [give_row (by rfl) (strs_closed _)]
    simp only [listT, List.length_append, List.length_cons, List.length_nil]
end
end Go.Proofs.YtkilalabmbdmkaaDoor.Ev

/-
The text of a term: both texts are the same, and reading gives the term back.
-/
namespace Go.Proofs.YtkilalabmbdmkaaDoor.Ev
section
set_option linter.unusedVariables false
set_option linter.unusedSimpArgs false
open Go Go.RowKit
set_option linter.unusedVariables false
set_option linter.unusedSimpArgs false

def textT : T → List UInt8
  | .dig c => [c]
  | .var c => [c]
  | .one s x => s :: textT x
  | .two s x y => 40 :: (textT x ++ (s :: (textT y ++ [41])))
  | .loop s v x y => s :: v :: 58 :: (textT x ++ (62 :: (textT y ++ [s + 2])))

theorem rd_text : ∀ (n : Nat) (s : List UInt8) (t : T) (r : List UInt8), rd n s = some (t, r) → s = textT t ++ r := by
  intro n
  induction n with
  | zero => intro s t r h; cases h
  | succ n ih =>
    intro s t r h
    cases s with
    | nil => cases h
    | cons c s =>
      simp only [rd] at h
      split at h
      · simp only [Option.some.injEq, Prod.mk.injEq] at h; obtain ⟨rfl, rfl⟩ := h; rfl
      split at h
      · simp only [Option.some.injEq, Prod.mk.injEq] at h; obtain ⟨rfl, rfl⟩ := h; rfl
      split at h
      · split at h
        · rename_i x r1 h1
          simp only [Option.some.injEq, Prod.mk.injEq] at h; obtain ⟨rfl, rfl⟩ := h
          rw [ih _ _ _ h1]
          rfl
        · cases h
      split at h
      · rename_i hc
        unfold rdTwo at h
        split at h
        · rename_i x q r2 h1
          split at h
          · split at h
            · rename_i y z r4 h2
              split at h
              · rename_i hz
                simp only [Option.some.injEq, Prod.mk.injEq] at h; obtain ⟨rfl, rfl⟩ := h
                rw [ih _ _ _ h1, ih _ _ _ h2, hc, hz]
                simp [textT]
              · cases h
            · cases h
          · cases h
        · cases h
      split at h
      · unfold rdLoop at h
        split at h
        · rename_i v d r1
          split at h
          · rename_i hv
            split at h
            · rename_i x q r2 h1
              split at h
              · rename_i hq
                split at h
                · rename_i y z r4 h2
                  split at h
                  · rename_i hz
                    simp only [Option.some.injEq, Prod.mk.injEq] at h; obtain ⟨rfl, rfl⟩ := h
                    rw [ih _ _ _ h1, ih _ _ _ h2, hv.2, hq, hz]
                    simp [textT]
                  · cases h
                · cases h
              · cases h
            · cases h
          · cases h
        · cases h
      · cases h

theorem one_not {c : UInt8} (h : isOne c = true) : isVar c = false ∧ isDig c = false := by
  have h2 : c = 83 ∨ c = 77 ∨ c = 73 ∨ c = 78 ∨ c = 82 ∨ c = 67 ∨ c = 80 := by simpa [isOne] using h
  rcases h2 with rfl | rfl | rfl | rfl | rfl | rfl | rfl <;> exact ⟨rfl, rfl⟩
theorem rd_of : ∀ (t : T), WF t → ∀ (n : Nat) (r : List UInt8), (textT t).length ≤ n → rd n (textT t ++ r) = some (t, r) := by
  intro t
  induction t with
  | dig c =>
    intro hw n r hn
    obtain ⟨m, rfl⟩ : ∃ m, n = m + 1 := ⟨n - 1, by simp [textT] at hn; omega⟩
    have hw : isDig c = true := hw
    simp [textT, rd, dig_not_var hw, hw]
  | var c =>
    intro hw n r hn
    obtain ⟨m, rfl⟩ : ∃ m, n = m + 1 := ⟨n - 1, by simp [textT] at hn; omega⟩
    have hw : isVar c = true := hw
    simp [textT, rd, hw]
  | one s x ih =>
    intro hw n r hn
    simp only [textT, List.length_cons] at hn
    obtain ⟨m, rfl⟩ : ∃ m, n = m + 1 := ⟨n - 1, by omega⟩
    obtain ⟨h1, h2⟩ := one_not hw.1
    simp [textT, rd, h1, h2, hw.1, ih hw.2 m r (by omega)]
  | two s x y ihx ihy =>
    intro hw n r hn
    simp only [textT, List.length_cons, List.length_append, List.length_nil] at hn
    obtain ⟨m, rfl⟩ : ∃ m, n = m + 1 := ⟨n - 1, by omega⟩
    have h1 : isVar 40 = false := rfl
    have h2 : isDig 40 = false := rfl
    have h3 : isOne 40 = false := rfl
    have e1 := ihx hw.2.1 m (s :: (textT y ++ (41 :: r))) (by omega)
    have e2 := ihy hw.2.2 m (41 :: r) (by omega)
    simp [textT, rd, rdTwo, h1, h2, h3, e1, e2, hw.1]
  | loop s v x y ihx ihy =>
    intro hw n r hn
    simp only [textT, List.length_cons, List.length_append, List.length_nil] at hn
    obtain ⟨m, rfl⟩ : ∃ m, n = m + 1 := ⟨n - 1, by omega⟩
    have hs : isVar s = false ∧ isDig s = false ∧ isOne s = false ∧ s ≠ 40 := by rcases hw.1 with h | h <;> rw [h] <;> decide
    have e1 := ihx hw.2.2.1 m (62 :: (textT y ++ ((s + 2) :: r))) (by omega)
    have e2 := ihy hw.2.2.2 m ((s + 2) :: r) (by omega)
    simp [textT, rd, rdLoop, hs.1, hs.2.1, hs.2.2.1, hs.2.2.2, hw.1, hw.2.1, e1, e2]
theorem rdT_text {t : List UInt8} {x : T} (h : rdT t = some x) : t = textT x := by
  unfold rdT at h
  split at h
  · cases h
  · split at h
    · rename_i y hy
      obtain rfl := Option.some.inj h
      simpa using rd_text _ _ _ _ hy
    · cases h
theorem rdT_of {x : T} (hw : WF x) (hl : (textT x).length ≤ 80) : rdT (textT x) = some x := by
  unfold rdT
  rw [if_neg (by omega)]
  have := rd_of x hw ((textT x).length + 1) [] (by omega)
  rw [List.append_nil] at this
  rw [this]

/-- A pointer to a term, however its parts' slices were made. -/
inductive IsP : AV → T → Prop
  | dig (ex : Bool) (c : UInt8) : IsP (.p [S [c], S [], .s ex 0 []]) (.dig c)
  | var (ex : Bool) (c : UInt8) : IsP (.p [S [c], S [], .s ex 0 []]) (.var c)
  | one (ex : Bool) (s : UInt8) {a : AV} {x : T} (h : IsP a x) : IsP (.p [S [s], S [], .s ex 1 [a]]) (.one s x)
  | two (ex : Bool) (s : UInt8) {a b : AV} {x y : T} (h : IsP a x) (k : IsP b y) : IsP (.p [S [s], S [], .s ex 2 [a, b]]) (.two s x y)
  | loop (ex : Bool) (s v : UInt8) {a b : AV} {x y : T} (h : IsP a x) (k : IsP b y) : IsP (.p [S [s], S [v], .s ex 2 [a, b]]) (.loop s v x y)
theorem encP_is : ∀ t, IsP (encP t) t
  | .dig c => .dig true c
  | .var c => .var true c
  | .one s x => .one true s (encP_is x)
  | .two s x y => .two true s (encP_is x) (encP_is y)
  | .loop s v x y => .loop true s v (encP_is x) (encP_is y)
theorem IsP.closed {a : AV} {t : T} (h : IsP a t) : Ev.closed a = true := by
  induction h with
  | dig => rfl
  | var => rfl
  | one ex s h ih => simp only [Ev.closed, closedL, ih, Bool.and_self]
  | two ex s h k ih ik => simp only [Ev.closed, closedL, ih, ik, Bool.and_self]
  | loop ex s v h k ih ik => simp only [Ev.closed, closedL, ih, ik, Bool.and_self]
theorem IsP.leaf {a : AV} {t : T} (h : IsP a t) : leaves a = some [a] ∧ leafOk a = true := by cases h <;> exact ⟨rfl, rfl⟩
theorem IsP.ptr {a : AV} {t : T} (h : IsP a t) (op : BinOp) (q : Nat) : bin op (.ptr q) a nilP = eqB op false := by cases h <;> rfl

def isLoop : T → Bool
  | .loop .. => true
  | _ => false
theorem loop_is {a : AV} {t : T} (h : IsP a t) : EE 55 [a] = some (B (isLoop t)) := by
  cases h with
  | dig ex c => exact loop_ev _ _ _ rfl
  | var ex c => exact loop_ev _ _ _ rfl
  | one ex s h => exact loop_ev _ _ _ (by simp only [closed, closedL, h.closed, Bool.and_self])
  | two ex s h k => exact loop_ev _ _ _ (by simp only [closed, closedL, h.closed, k.closed, Bool.and_self])
  | loop ex s v h k => exact loop_ev _ _ _ (by simp only [closed, closedL, h.closed, k.closed, Bool.and_self])
theorem str_addIf (a b : List UInt8) : strBin .add ⟨List.toArray a⟩ ⟨List.toArray b⟩ = if a.length + b.length ≤ 9223372036854775807 then some (S (a ++ b)) else none := by
  simp only [strBin, size_mk, append_mk]

/-- Signs of loops as they are. -/
def WFL : T → Prop
  | .dig _ => True
  | .var _ => True
  | .one _ x => WFL x
  | .two _ x y => WFL x ∧ WFL y
  | .loop s _ x y => (s = 91 ∨ s = 123) ∧ WFL x ∧ WFL y
theorem WF.l : ∀ {t : T}, WF t → WFL t
  | .dig _, _ => trivial
  | .var _, _ => trivial
  | .one _ x, h => WF.l (t := x) h.2
  | .two _ x y, h => ⟨WF.l (t := x) h.2.1, WF.l (t := y) h.2.2⟩
  | .loop _ _ x y, h => ⟨h.1, WF.l (t := x) h.2.2.1, WF.l (t := y) h.2.2.2⟩
theorem T_text : TT 33 = some (Tryd.f33, bodyOf Tryd.f33) := by kernel_rfl
set_option maxHeartbeats 4000000 in
theorem text_evL {a : AV} {t : T} (h : IsP a t) : WFL t → (textT t).length ≤ 1000000 → EE 33 [a] = some (S (textT t)) := by
  induction h with
  | dig ex c =>
    intro hw hb
    have hl := loop_is (.dig ex c)
    refine EE_plain T_text (by decide) (Nat.le_of_ble_eq_true rfl) rfl ?_
    rw [show opt 33 = [] from rfl]
    simp only [bodyOf, Tryd.f33, SA]
    simp only [hl, isLoop, textT, RR, IA, PA, RA0, RA1, RA2, RA3, RA4, RA5, RA6, RA7, RA8, RA9, RA10, Nat.reduceAdd, Nat.reduceMul, Nat.reduceEqDiff, Nat.reduceLeDiff, Nat.reduceLT, Int.reduceToNat, Int.reduceLT, Int.reduceLE, Int.reduceEq, Int.reduceNeg, Int.reduceAdd, Int.reduceSub, Int.reduceMul, reduceIte]
  | var ex c =>
    intro hw hb
    have hl := loop_is (.var ex c)
    refine EE_plain T_text (by decide) (Nat.le_of_ble_eq_true rfl) rfl ?_
    rw [show opt 33 = [] from rfl]
    simp only [bodyOf, Tryd.f33, SA]
    simp only [hl, isLoop, textT, RR, IA, PA, RA0, RA1, RA2, RA3, RA4, RA5, RA6, RA7, RA8, RA9, RA10, Nat.reduceAdd, Nat.reduceMul, Nat.reduceEqDiff, Nat.reduceLeDiff, Nat.reduceLT, Int.reduceToNat, Int.reduceLT, Int.reduceLE, Int.reduceEq, Int.reduceNeg, Int.reduceAdd, Int.reduceSub, Int.reduceMul, reduceIte]
  | @one ex s a x h ih =>
    intro hw hb
    simp only [textT, List.length_cons, List.length_append, List.length_nil] at hb
    have hl := loop_is (.one ex s h)
    have hx := ih hw (by omega)
    refine EE_plain T_text (by decide) (Nat.le_of_ble_eq_true rfl) (by simp only [closedL, closed, h.closed, Bool.and_self]) ?_
    rw [show opt 33 = [] from rfl]
    simp only [bodyOf, Tryd.f33, SA]
    simp only [hl, hx, h.closed, isLoop, str_addIf, textT, RR, IA, PA, RA0, RA1, RA2, RA3, RA4, RA5, RA6, RA7, RA8, RA9, RA10, Nat.reduceAdd, Nat.reduceMul, Nat.reduceEqDiff, Nat.reduceLeDiff, Nat.reduceLT, Int.reduceToNat, Int.reduceLT, Int.reduceLE, Int.reduceEq, Int.reduceNeg, Int.reduceAdd, Int.reduceSub, Int.reduceMul, reduceIte]
    rw [if_pos (by omega)]
  | @two ex s a b x y h k ihx ihy =>
    intro hw hb
    simp only [textT, List.length_cons, List.length_append, List.length_nil] at hb
    have hl := loop_is (.two ex s h k)
    have hx := ihx hw.1 (by omega)
    have hy := ihy hw.2 (by omega)
    refine EE_plain T_text (by decide) (Nat.le_of_ble_eq_true rfl) (by simp only [closedL, closed, h.closed, k.closed, Bool.and_self]) ?_
    rw [show opt 33 = [] from rfl]
    simp only [bodyOf, Tryd.f33, SA]
    simp only [hl, hx, hy, h.closed, k.closed, isLoop, str_addIf, textT, List.length_append, List.append_assoc, RR, IA, PA, RA0, RA1, RA2, RA3, RA4, RA5, RA6, RA7, RA8, RA9, RA10, Nat.reduceAdd, Nat.reduceMul, Nat.reduceEqDiff, Nat.reduceLeDiff, Nat.reduceLT, Int.reduceToNat, Int.reduceLT, Int.reduceLE, Int.reduceEq, Int.reduceNeg, Int.reduceAdd, Int.reduceSub, Int.reduceMul, reduceIte]
    repeat rw [if_pos (by omega)]
  | @loop ex s v a b x y h k ihx ihy =>
    intro hw hb
    simp only [textT, List.length_cons, List.length_append, List.length_nil] at hb
    have hl := loop_is (.loop ex s v h k)
    have hx := ihx hw.2.1 (by omega)
    have hy := ihy hw.2.2 (by omega)
    have he : EE 61 [S [s]] = some (S [s + 2]) := by
      rw [ends_ev]
      rcases hw.1 with h | h <;> rw [h] <;> rfl
    refine EE_plain T_text (by decide) (Nat.le_of_ble_eq_true rfl) (by simp only [closedL, closed, h.closed, k.closed, Bool.and_self]) ?_
    rw [show opt 33 = [] from rfl]
    simp only [bodyOf, Tryd.f33, SA]
    simp only [hl, hx, hy, he, h.closed, k.closed, isLoop, str_addIf, textT, List.length_append, List.append_assoc, RR, IA, PA, RA0, RA1, RA2, RA3, RA4, RA5, RA6, RA7, RA8, RA9, RA10, Nat.reduceAdd, Nat.reduceMul, Nat.reduceEqDiff, Nat.reduceLeDiff, Nat.reduceLT, Int.reduceToNat, Int.reduceLT, Int.reduceLE, Int.reduceEq, Int.reduceNeg, Int.reduceAdd, Int.reduceSub, Int.reduceMul, reduceIte]
    repeat rw [if_pos (by omega)]

theorem text_ev {a : AV} {t : T} (h : IsP a t) (hw : WF t) (hl : (textT t).length ≤ 1000000) : EE 33 [a] = some (S (textT t)) := text_evL h hw.l hl

theorem T_l5Text : TT 32 = some (Tryd.f32, bodyOf Tryd.f32) := by kernel_rfl
set_option maxHeartbeats 4000000 in
theorem l5Text_ev : ∀ t, WF t → (textT t).length ≤ 1000000 → EE 32 [.a (encN t)] = some (S (textT t)) := by
  intro t
  induction t with
  | dig c =>
    intro hw hb
    refine EE_plain T_l5Text (by decide) (Nat.le_of_ble_eq_true rfl) (by simp only [closedL, closed, encN_closed, Bool.and_self]) ?_
    rw [show opt 32 = [] from rfl]
    simp only [bodyOf, Tryd.f32, SA]
    simp only [encN, textT, TMA, RR, IA, PA, RA0, RA1, RA2, RA3, RA4, RA5, RA6, RA7, RA8, RA9, RA10, Nat.reduceAdd, Nat.reduceMul, Nat.reduceEqDiff, Nat.reduceLeDiff, Nat.reduceLT, Int.reduceToNat, Int.reduceLT, Int.reduceLE, Int.reduceEq, Int.reduceNeg, Int.reduceAdd, Int.reduceSub, Int.reduceMul, reduceIte]
  | var c =>
    intro hw hb
    refine EE_plain T_l5Text (by decide) (Nat.le_of_ble_eq_true rfl) (by simp only [closedL, closed, encN_closed, Bool.and_self]) ?_
    rw [show opt 32 = [] from rfl]
    simp only [bodyOf, Tryd.f32, SA]
    simp only [encN, textT, TMA, RR, IA, PA, RA0, RA1, RA2, RA3, RA4, RA5, RA6, RA7, RA8, RA9, RA10, Nat.reduceAdd, Nat.reduceMul, Nat.reduceEqDiff, Nat.reduceLeDiff, Nat.reduceLT, Int.reduceToNat, Int.reduceLT, Int.reduceLE, Int.reduceEq, Int.reduceNeg, Int.reduceAdd, Int.reduceSub, Int.reduceMul, reduceIte]
  | one s x ih =>
    intro hw hb
    simp only [textT, List.length_cons, List.length_append, List.length_nil] at hb
    have hx := ih hw.2 (by omega)
    refine EE_plain T_l5Text (by decide) (Nat.le_of_ble_eq_true rfl) (by simp only [closedL, closed, encN_closed, Bool.and_self]) ?_
    rw [show opt 32 = [] from rfl]
    simp only [bodyOf, Tryd.f32, SA]
    simp only [encN, textT, hx, str_addIf, TMA, RR, IA, PA, RA0, RA1, RA2, RA3, RA4, RA5, RA6, RA7, RA8, RA9, RA10, Nat.reduceAdd, Nat.reduceMul, Nat.reduceEqDiff, Nat.reduceLeDiff, Nat.reduceLT, Int.reduceToNat, Int.reduceLT, Int.reduceLE, Int.reduceEq, Int.reduceNeg, Int.reduceAdd, Int.reduceSub, Int.reduceMul, reduceIte]
    rw [if_pos (by omega)]
  | two s x y ihx ihy =>
    intro hw hb
    simp only [textT, List.length_cons, List.length_append, List.length_nil] at hb
    have hx := ihx hw.2.1 (by omega)
    have hy := ihy hw.2.2 (by omega)
    refine EE_plain T_l5Text (by decide) (Nat.le_of_ble_eq_true rfl) (by simp only [closedL, closed, encN_closed, Bool.and_self]) ?_
    rw [show opt 32 = [] from rfl]
    simp only [bodyOf, Tryd.f32, SA]
    simp only [encN, textT, hx, hy, str_addIf, List.length_append, List.append_assoc, TMA, RR, IA, PA, RA0, RA1, RA2, RA3, RA4, RA5, RA6, RA7, RA8, RA9, RA10, Nat.reduceAdd, Nat.reduceMul, Nat.reduceEqDiff, Nat.reduceLeDiff, Nat.reduceLT, Int.reduceToNat, Int.reduceLT, Int.reduceLE, Int.reduceEq, Int.reduceNeg, Int.reduceAdd, Int.reduceSub, Int.reduceMul, reduceIte]
    repeat rw [if_pos (by omega)]
  | loop s v x y ihx ihy =>
    intro hw hb
    simp only [textT, List.length_cons, List.length_append, List.length_nil] at hb
    have hx := ihx hw.2.2.1 (by omega)
    have hy := ihy hw.2.2.2 (by omega)
    have hv0 : ¬ ((v.toNat : Int) = 0) := by
      have := hw.2.1
      simp only [isLV, Bool.and_eq_true, decide_eq_true_iff] at this
      omega
    have hs2 : IntKind.u8.wrap ((s.toNat : Int) + 2) = ((s + 2).toNat : Int) := by rcases hw.1 with h | h <;> rw [h] <;> rfl
    refine EE_plain T_l5Text (by decide) (Nat.le_of_ble_eq_true rfl) (by simp only [closedL, closed, encN_closed, Bool.and_self]) ?_
    rw [show opt 32 = [] from rfl]
    simp only [bodyOf, Tryd.f32, SA]
    simp only [encN, textT, hx, hy, hv0, hs2, str_addIf, List.length_append, List.append_assoc, TMA, RR, IA, PA, RA0, RA1, RA2, RA3, RA4, RA5, RA6, RA7, RA8, RA9, RA10, Nat.reduceAdd, Nat.reduceMul, Nat.reduceEqDiff, Nat.reduceLeDiff, Nat.reduceLT, Int.reduceToNat, Int.reduceLT, Int.reduceLE, Int.reduceEq, Int.reduceNeg, Int.reduceAdd, Int.reduceSub, Int.reduceMul, reduceIte]
    repeat rw [if_pos (by omega)]
end
end Go.Proofs.YtkilalabmbdmkaaDoor.Ev

/-
Terms: the depth of what they give: the implementation.
-/
namespace Go.Proofs.YtkilalabmbdmkaaDoor.Ev
section
set_option linter.unusedVariables false
set_option linter.unusedSimpArgs false
open Go Go.RowKit
set_option linter.unusedVariables false
set_option linter.unusedSimpArgs false
def sOne (s : UInt8) (d : Int) : Int :=
  if s = 83 ∨ s = 77 then (if d = 1 then 0 else -1) else if s = 73 then (if d = 0 then 1 else -1) else if s = 78 then (if 1 ≤ d then 0 else -1)
  else if s = 82 then (if 1 ≤ d then d else -1) else if s = 67 then (if 2 ≤ d then d - 1 else -1) else if s = 80 then (if d = 1 then 1 else -1) else -1
def sTwo (s : UInt8) (d e : Int) : Int := if s = 64 then (if d = 1 ∧ e = 0 then 0 else -1) else if d = 0 ∧ e = 0 then 0 else -1
def sLoop (s : UInt8) (d e : Int) : Int := if s = 91 then (if 0 ≤ e ∧ e ≤ 2 then e + 1 else -1) else if e = 0 then d else -1
/-- Depths of variables, with one more. -/
def hset (h : UInt8 → Int) (v : UInt8) (n : Int) : UInt8 → Int := fun c => if c = v then n else h c
/-- The depth of what a term gives. -/
def dpt (h : UInt8 → Int) : T → Int
  | .dig _ => 0
  | .var c => h c
  | .one s x => sOne s (dpt h x)
  | .two s x y => sTwo s (dpt h x) (dpt h y)
  | .loop s v x y => if dpt h x < 1 then -1 else sLoop s (dpt h x) (dpt (hset h v (dpt h x - 1)) y)
def Bd (d : Int) : Prop := -1 ≤ d ∧ d ≤ 3
theorem sOne_bd (s : UInt8) {d : Int} (h : Bd d) : Bd (sOne s d) := by
  unfold Bd at *
  unfold sOne
  repeat' split
  all_goals omega
theorem sTwo_bd (s : UInt8) (d e : Int) : Bd (sTwo s d e) := by
  unfold Bd sTwo
  repeat' split
  all_goals omega
theorem sLoop_bd (s : UInt8) {d e : Int} (h : Bd d) : Bd (sLoop s d e) := by
  unfold Bd at *
  unfold sLoop
  repeat' split
  all_goals omega
theorem hset_bd {h : UInt8 → Int} (hb : ∀ c, Bd (h c)) (v : UInt8) {n : Int} (hn : Bd n) : ∀ c, Bd (hset h v n c) := by
  intro c
  unfold hset
  split
  · exact hn
  · exact hb c
theorem dpt_bd : ∀ (t : T) (h : UInt8 → Int), (∀ c, Bd (h c)) → Bd (dpt h t)
  | .dig _, h, _ => ⟨by simp [dpt], by simp [dpt]⟩
  | .var c, h, hb => hb c
  | .one s x, h, hb => sOne_bd s (dpt_bd x h hb)
  | .two s x y, h, hb => sTwo_bd s _ _
  | .loop s v x y, h, hb => by
    simp only [dpt]
    split
    · exact ⟨by omega, by omega⟩
    · exact sLoop_bd s (dpt_bd x h hb)
theorem ne83 : (¬ ((83 : UInt8) = 77)) ∧ (¬ ((83 : UInt8) = 73)) ∧ (¬ ((83 : UInt8) = 78)) ∧ (¬ ((83 : UInt8) = 82)) ∧ (¬ ((83 : UInt8) = 67)) ∧ (¬ ((83 : UInt8) = 80)) := ⟨by decide, by decide, by decide, by decide, by decide, by decide⟩
theorem ne77 : (¬ ((77 : UInt8) = 83)) ∧ (¬ ((77 : UInt8) = 73)) ∧ (¬ ((77 : UInt8) = 78)) ∧ (¬ ((77 : UInt8) = 82)) ∧ (¬ ((77 : UInt8) = 67)) ∧ (¬ ((77 : UInt8) = 80)) := ⟨by decide, by decide, by decide, by decide, by decide, by decide⟩
theorem ne73 : (¬ ((73 : UInt8) = 83)) ∧ (¬ ((73 : UInt8) = 77)) ∧ (¬ ((73 : UInt8) = 78)) ∧ (¬ ((73 : UInt8) = 82)) ∧ (¬ ((73 : UInt8) = 67)) ∧ (¬ ((73 : UInt8) = 80)) := ⟨by decide, by decide, by decide, by decide, by decide, by decide⟩
theorem ne78 : (¬ ((78 : UInt8) = 83)) ∧ (¬ ((78 : UInt8) = 77)) ∧ (¬ ((78 : UInt8) = 73)) ∧ (¬ ((78 : UInt8) = 82)) ∧ (¬ ((78 : UInt8) = 67)) ∧ (¬ ((78 : UInt8) = 80)) := ⟨by decide, by decide, by decide, by decide, by decide, by decide⟩
theorem ne82 : (¬ ((82 : UInt8) = 83)) ∧ (¬ ((82 : UInt8) = 77)) ∧ (¬ ((82 : UInt8) = 73)) ∧ (¬ ((82 : UInt8) = 78)) ∧ (¬ ((82 : UInt8) = 67)) ∧ (¬ ((82 : UInt8) = 80)) := ⟨by decide, by decide, by decide, by decide, by decide, by decide⟩
theorem ne67 : (¬ ((67 : UInt8) = 83)) ∧ (¬ ((67 : UInt8) = 77)) ∧ (¬ ((67 : UInt8) = 73)) ∧ (¬ ((67 : UInt8) = 78)) ∧ (¬ ((67 : UInt8) = 82)) ∧ (¬ ((67 : UInt8) = 80)) := ⟨by decide, by decide, by decide, by decide, by decide, by decide⟩
theorem ne80 : (¬ ((80 : UInt8) = 83)) ∧ (¬ ((80 : UInt8) = 77)) ∧ (¬ ((80 : UInt8) = 73)) ∧ (¬ ((80 : UInt8) = 78)) ∧ (¬ ((80 : UInt8) = 82)) ∧ (¬ ((80 : UInt8) = 67)) := ⟨by decide, by decide, by decide, by decide, by decide, by decide⟩
theorem T_signDepth : TT 72 = some (Tryd.f72, bodyOf Tryd.f72) := by kernel_rfl
set_option maxHeartbeats 4000000 in
theorem signOne_ev (s : UInt8) (hs : isOne s = true) (d : Int) (hd : Bd d) : EE 72 [S [s], .s false 1 [N d]] = some (N (sOne s d)) := by
  refine EE_plain T_signDepth (by decide) (Nat.le_of_ble_eq_true rfl) rfl ?_
  rw [show opt 72 = [] from rfl]
  simp only [bodyOf, Tryd.f72, SA]
  have h2 : s = 83 ∨ s = 77 ∨ s = 73 ∨ s = 78 ∨ s = 82 ∨ s = 67 ∨ s = 80 := by simpa [isOne] using hs
  obtain ⟨hd1, hd2⟩ := hd
  by_cases h0 : d < 0
  · have hr : sOne s d = -1 := by
      unfold sOne
      repeat' split
      all_goals omega
    simp only [hr, h0, TMA, RR, IA, PA, RA0, RA1, RA2, RA3, RA4, RA5, RA6, RA7, RA8, RA9, RA10, Nat.reduceAdd, Nat.reduceMul, Nat.reduceEqDiff, Nat.reduceLeDiff, Nat.reduceLT, Int.reduceToNat, Int.reduceLT, Int.reduceLE, Int.reduceEq, Int.reduceNeg, Int.reduceAdd, Int.reduceSub, Int.reduceMul, reduceIte]
  have hw : IntKind.i64.wrap (d - 1) = d - 1 := by rw [wrap64 (by omega) (by omega)]
  rcases h2 with rfl | rfl | rfl | rfl | rfl | rfl | rfl
  · by_cases hc : d = 1
    · simp only [ne83, sOne, h0, hc, hw, or_false, false_or, or_true, true_or, TMA, RR, IA, PA, RA0, RA1, RA2, RA3, RA4, RA5, RA6, RA7, RA8, RA9, RA10, Nat.reduceAdd, Nat.reduceMul, Nat.reduceEqDiff, Nat.reduceLeDiff, Nat.reduceLT, Int.reduceToNat, Int.reduceLT, Int.reduceLE, Int.reduceEq, Int.reduceNeg, Int.reduceAdd, Int.reduceSub, Int.reduceMul, reduceIte]
    · simp only [ne83, sOne, h0, hc, hw, or_false, false_or, or_true, true_or, TMA, RR, IA, PA, RA0, RA1, RA2, RA3, RA4, RA5, RA6, RA7, RA8, RA9, RA10, Nat.reduceAdd, Nat.reduceMul, Nat.reduceEqDiff, Nat.reduceLeDiff, Nat.reduceLT, Int.reduceToNat, Int.reduceLT, Int.reduceLE, Int.reduceEq, Int.reduceNeg, Int.reduceAdd, Int.reduceSub, Int.reduceMul, reduceIte]
  · by_cases hc : d = 1
    · simp only [ne77, sOne, h0, hc, hw, or_false, false_or, or_true, true_or, TMA, RR, IA, PA, RA0, RA1, RA2, RA3, RA4, RA5, RA6, RA7, RA8, RA9, RA10, Nat.reduceAdd, Nat.reduceMul, Nat.reduceEqDiff, Nat.reduceLeDiff, Nat.reduceLT, Int.reduceToNat, Int.reduceLT, Int.reduceLE, Int.reduceEq, Int.reduceNeg, Int.reduceAdd, Int.reduceSub, Int.reduceMul, reduceIte]
    · simp only [ne77, sOne, h0, hc, hw, or_false, false_or, or_true, true_or, TMA, RR, IA, PA, RA0, RA1, RA2, RA3, RA4, RA5, RA6, RA7, RA8, RA9, RA10, Nat.reduceAdd, Nat.reduceMul, Nat.reduceEqDiff, Nat.reduceLeDiff, Nat.reduceLT, Int.reduceToNat, Int.reduceLT, Int.reduceLE, Int.reduceEq, Int.reduceNeg, Int.reduceAdd, Int.reduceSub, Int.reduceMul, reduceIte]
  · by_cases hc : d = 0
    · simp only [ne73, sOne, h0, hc, hw, or_false, false_or, or_true, true_or, TMA, RR, IA, PA, RA0, RA1, RA2, RA3, RA4, RA5, RA6, RA7, RA8, RA9, RA10, Nat.reduceAdd, Nat.reduceMul, Nat.reduceEqDiff, Nat.reduceLeDiff, Nat.reduceLT, Int.reduceToNat, Int.reduceLT, Int.reduceLE, Int.reduceEq, Int.reduceNeg, Int.reduceAdd, Int.reduceSub, Int.reduceMul, reduceIte]
    · simp only [ne73, sOne, h0, hc, hw, or_false, false_or, or_true, true_or, TMA, RR, IA, PA, RA0, RA1, RA2, RA3, RA4, RA5, RA6, RA7, RA8, RA9, RA10, Nat.reduceAdd, Nat.reduceMul, Nat.reduceEqDiff, Nat.reduceLeDiff, Nat.reduceLT, Int.reduceToNat, Int.reduceLT, Int.reduceLE, Int.reduceEq, Int.reduceNeg, Int.reduceAdd, Int.reduceSub, Int.reduceMul, reduceIte]
  · by_cases hc : 1 ≤ d
    · simp only [ne78, sOne, h0, hc, hw, or_false, false_or, or_true, true_or, TMA, RR, IA, PA, RA0, RA1, RA2, RA3, RA4, RA5, RA6, RA7, RA8, RA9, RA10, Nat.reduceAdd, Nat.reduceMul, Nat.reduceEqDiff, Nat.reduceLeDiff, Nat.reduceLT, Int.reduceToNat, Int.reduceLT, Int.reduceLE, Int.reduceEq, Int.reduceNeg, Int.reduceAdd, Int.reduceSub, Int.reduceMul, reduceIte]
    · simp only [ne78, sOne, h0, hc, hw, or_false, false_or, or_true, true_or, TMA, RR, IA, PA, RA0, RA1, RA2, RA3, RA4, RA5, RA6, RA7, RA8, RA9, RA10, Nat.reduceAdd, Nat.reduceMul, Nat.reduceEqDiff, Nat.reduceLeDiff, Nat.reduceLT, Int.reduceToNat, Int.reduceLT, Int.reduceLE, Int.reduceEq, Int.reduceNeg, Int.reduceAdd, Int.reduceSub, Int.reduceMul, reduceIte]
  · by_cases hc : 1 ≤ d
    · simp only [ne82, sOne, h0, hc, hw, or_false, false_or, or_true, true_or, TMA, RR, IA, PA, RA0, RA1, RA2, RA3, RA4, RA5, RA6, RA7, RA8, RA9, RA10, Nat.reduceAdd, Nat.reduceMul, Nat.reduceEqDiff, Nat.reduceLeDiff, Nat.reduceLT, Int.reduceToNat, Int.reduceLT, Int.reduceLE, Int.reduceEq, Int.reduceNeg, Int.reduceAdd, Int.reduceSub, Int.reduceMul, reduceIte]
    · simp only [ne82, sOne, h0, hc, hw, or_false, false_or, or_true, true_or, TMA, RR, IA, PA, RA0, RA1, RA2, RA3, RA4, RA5, RA6, RA7, RA8, RA9, RA10, Nat.reduceAdd, Nat.reduceMul, Nat.reduceEqDiff, Nat.reduceLeDiff, Nat.reduceLT, Int.reduceToNat, Int.reduceLT, Int.reduceLE, Int.reduceEq, Int.reduceNeg, Int.reduceAdd, Int.reduceSub, Int.reduceMul, reduceIte]
  · by_cases hc : 2 ≤ d
    · simp only [ne67, sOne, h0, hc, hw, or_false, false_or, or_true, true_or, TMA, RR, IA, PA, RA0, RA1, RA2, RA3, RA4, RA5, RA6, RA7, RA8, RA9, RA10, Nat.reduceAdd, Nat.reduceMul, Nat.reduceEqDiff, Nat.reduceLeDiff, Nat.reduceLT, Int.reduceToNat, Int.reduceLT, Int.reduceLE, Int.reduceEq, Int.reduceNeg, Int.reduceAdd, Int.reduceSub, Int.reduceMul, reduceIte]
    · simp only [ne67, sOne, h0, hc, hw, or_false, false_or, or_true, true_or, TMA, RR, IA, PA, RA0, RA1, RA2, RA3, RA4, RA5, RA6, RA7, RA8, RA9, RA10, Nat.reduceAdd, Nat.reduceMul, Nat.reduceEqDiff, Nat.reduceLeDiff, Nat.reduceLT, Int.reduceToNat, Int.reduceLT, Int.reduceLE, Int.reduceEq, Int.reduceNeg, Int.reduceAdd, Int.reduceSub, Int.reduceMul, reduceIte]
  · by_cases hc : d = 1
    · simp only [ne80, sOne, h0, hc, hw, or_false, false_or, or_true, true_or, TMA, RR, IA, PA, RA0, RA1, RA2, RA3, RA4, RA5, RA6, RA7, RA8, RA9, RA10, Nat.reduceAdd, Nat.reduceMul, Nat.reduceEqDiff, Nat.reduceLeDiff, Nat.reduceLT, Int.reduceToNat, Int.reduceLT, Int.reduceLE, Int.reduceEq, Int.reduceNeg, Int.reduceAdd, Int.reduceSub, Int.reduceMul, reduceIte]
    · simp only [ne80, sOne, h0, hc, hw, or_false, false_or, or_true, true_or, TMA, RR, IA, PA, RA0, RA1, RA2, RA3, RA4, RA5, RA6, RA7, RA8, RA9, RA10, Nat.reduceAdd, Nat.reduceMul, Nat.reduceEqDiff, Nat.reduceLeDiff, Nat.reduceLT, Int.reduceToNat, Int.reduceLT, Int.reduceLE, Int.reduceEq, Int.reduceNeg, Int.reduceAdd, Int.reduceSub, Int.reduceMul, reduceIte]
end
end Go.Proofs.YtkilalabmbdmkaaDoor.Ev

/-
Terms: the depth of what they give: the reference.
-/
namespace Go.Proofs.YtkilalabmbdmkaaDoor.Ev
section
set_option linter.unusedVariables false
set_option linter.unusedSimpArgs false
open Go Go.RowKit
set_option linter.unusedVariables false
set_option linter.unusedSimpArgs false
/-- The depths of all variables in their cells. -/
def envL (h : UInt8 → Int) : List AV := (List.range 256).map fun i => N (h (UInt8.ofNat i))
theorem envL_len (h : UInt8 → Int) : (envL h).length = 256 := by simp [envL]
theorem envL_closed (h : UInt8 → Int) : closedL (envL h) = true := by
  unfold envL
  generalize List.range 256 = l
  induction l with
  | nil => rfl
  | cons x l ih => simp only [List.map_cons, closedL, closed, ih, Bool.and_self]
theorem envL_get (h : UInt8 → Int) (v : UInt8) : ((envL h).drop v.toNat).head? = some (N (h v)) := by
  rw [List.head?_drop]
  have := v.toNat_lt
  simp [envL, this]
theorem envL_set (h : UInt8 → Int) (v : UInt8) (n : Int) : (envL h).take v.toNat ++ [N n] ++ (envL h).drop (v.toNat + 1) = envL (hset h v n) := by
  have hv := v.toNat_lt
  apply List.ext_getElem
  · simp [envL]
    omega
  · intro i h1 h2
    have hi : i < 256 := by simpa [envL] using h2
    simp only [envL, List.getElem_append, List.getElem_map, List.getElem_range, List.length_append, List.length_take, List.length_map, List.length_range, List.length_singleton, List.getElem_take, List.getElem_drop, List.getElem_singleton]
    have e : UInt8.ofNat i = v ↔ i = v.toNat := by
      constructor
      · intro e
        rw [← e, UInt8.toNat_ofNat']
        omega
      · intro e
        rw [e, UInt8.ofNat_toNat]
    unfold hset
    split
    · rename_i h3
      split
      · rename_i h4
        rw [if_neg (by rw [e]; omega)]
      · rename_i h4
        rw [if_pos (by rw [e]; omega)]
    · rename_i h3
      rw [if_neg (by rw [e]; omega)]
      congr 3
      omega
theorem T_l5One : TT 66 = some (Tryd.f66, bodyOf Tryd.f66) := by kernel_rfl
set_option maxHeartbeats 4000000 in
theorem l5One_ev (s : UInt8) (hs : isOne s = true) (d : Int) (hd : Bd d) : EE 66 [U s, N d] = some (N (sOne s d)) := by
  refine EE_plain T_l5One (by decide) (Nat.le_of_ble_eq_true rfl) rfl ?_
  rw [show opt 66 = [] from rfl]
  simp only [bodyOf, Tryd.f66, SA]
  have h2 : s = 83 ∨ s = 77 ∨ s = 73 ∨ s = 78 ∨ s = 82 ∨ s = 67 ∨ s = 80 := by simpa [isOne] using hs
  obtain ⟨hd1, hd2⟩ := hd
  have hw : IntKind.i64.wrap (d - 1) = d - 1 := by rw [wrap64 (by omega) (by omega)]
  rcases h2 with rfl | rfl | rfl | rfl | rfl | rfl | rfl
  · by_cases hc : d = 1
    · simp only [ne83, sOne, hc, hw, or_false, false_or, or_true, true_or, UInt8.reduceToNat, TMA, RR, IA, PA, RA0, RA1, RA2, RA3, RA4, RA5, RA6, RA7, RA8, RA9, RA10, Nat.reduceAdd, Nat.reduceMul, Nat.reduceEqDiff, Nat.reduceLeDiff, Nat.reduceLT, Int.reduceToNat, Int.reduceLT, Int.reduceLE, Int.reduceEq, Int.reduceNeg, Int.reduceAdd, Int.reduceSub, Int.reduceMul, reduceIte]
      rfl
    · simp only [ne83, sOne, hc, hw, or_false, false_or, or_true, true_or, UInt8.reduceToNat, TMA, RR, IA, PA, RA0, RA1, RA2, RA3, RA4, RA5, RA6, RA7, RA8, RA9, RA10, Nat.reduceAdd, Nat.reduceMul, Nat.reduceEqDiff, Nat.reduceLeDiff, Nat.reduceLT, Int.reduceToNat, Int.reduceLT, Int.reduceLE, Int.reduceEq, Int.reduceNeg, Int.reduceAdd, Int.reduceSub, Int.reduceMul, reduceIte]
      rfl
  · by_cases hc : d = 1
    · simp only [ne77, sOne, hc, hw, or_false, false_or, or_true, true_or, UInt8.reduceToNat, TMA, RR, IA, PA, RA0, RA1, RA2, RA3, RA4, RA5, RA6, RA7, RA8, RA9, RA10, Nat.reduceAdd, Nat.reduceMul, Nat.reduceEqDiff, Nat.reduceLeDiff, Nat.reduceLT, Int.reduceToNat, Int.reduceLT, Int.reduceLE, Int.reduceEq, Int.reduceNeg, Int.reduceAdd, Int.reduceSub, Int.reduceMul, reduceIte]
      rfl
    · simp only [ne77, sOne, hc, hw, or_false, false_or, or_true, true_or, UInt8.reduceToNat, TMA, RR, IA, PA, RA0, RA1, RA2, RA3, RA4, RA5, RA6, RA7, RA8, RA9, RA10, Nat.reduceAdd, Nat.reduceMul, Nat.reduceEqDiff, Nat.reduceLeDiff, Nat.reduceLT, Int.reduceToNat, Int.reduceLT, Int.reduceLE, Int.reduceEq, Int.reduceNeg, Int.reduceAdd, Int.reduceSub, Int.reduceMul, reduceIte]
      rfl
  · by_cases hc : d = 0
    · simp only [ne73, sOne, hc, hw, or_false, false_or, or_true, true_or, UInt8.reduceToNat, TMA, RR, IA, PA, RA0, RA1, RA2, RA3, RA4, RA5, RA6, RA7, RA8, RA9, RA10, Nat.reduceAdd, Nat.reduceMul, Nat.reduceEqDiff, Nat.reduceLeDiff, Nat.reduceLT, Int.reduceToNat, Int.reduceLT, Int.reduceLE, Int.reduceEq, Int.reduceNeg, Int.reduceAdd, Int.reduceSub, Int.reduceMul, reduceIte]
      rfl
    · simp only [ne73, sOne, hc, hw, or_false, false_or, or_true, true_or, UInt8.reduceToNat, TMA, RR, IA, PA, RA0, RA1, RA2, RA3, RA4, RA5, RA6, RA7, RA8, RA9, RA10, Nat.reduceAdd, Nat.reduceMul, Nat.reduceEqDiff, Nat.reduceLeDiff, Nat.reduceLT, Int.reduceToNat, Int.reduceLT, Int.reduceLE, Int.reduceEq, Int.reduceNeg, Int.reduceAdd, Int.reduceSub, Int.reduceMul, reduceIte]
      rfl
  · by_cases hc : 1 ≤ d
    · simp only [ne78, sOne, hc, hw, or_false, false_or, or_true, true_or, UInt8.reduceToNat, TMA, RR, IA, PA, RA0, RA1, RA2, RA3, RA4, RA5, RA6, RA7, RA8, RA9, RA10, Nat.reduceAdd, Nat.reduceMul, Nat.reduceEqDiff, Nat.reduceLeDiff, Nat.reduceLT, Int.reduceToNat, Int.reduceLT, Int.reduceLE, Int.reduceEq, Int.reduceNeg, Int.reduceAdd, Int.reduceSub, Int.reduceMul, reduceIte]
      rfl
    · simp only [ne78, sOne, hc, hw, or_false, false_or, or_true, true_or, UInt8.reduceToNat, TMA, RR, IA, PA, RA0, RA1, RA2, RA3, RA4, RA5, RA6, RA7, RA8, RA9, RA10, Nat.reduceAdd, Nat.reduceMul, Nat.reduceEqDiff, Nat.reduceLeDiff, Nat.reduceLT, Int.reduceToNat, Int.reduceLT, Int.reduceLE, Int.reduceEq, Int.reduceNeg, Int.reduceAdd, Int.reduceSub, Int.reduceMul, reduceIte]
      rfl
  · by_cases hc : 1 ≤ d
    · simp only [ne82, sOne, hc, hw, or_false, false_or, or_true, true_or, UInt8.reduceToNat, TMA, RR, IA, PA, RA0, RA1, RA2, RA3, RA4, RA5, RA6, RA7, RA8, RA9, RA10, Nat.reduceAdd, Nat.reduceMul, Nat.reduceEqDiff, Nat.reduceLeDiff, Nat.reduceLT, Int.reduceToNat, Int.reduceLT, Int.reduceLE, Int.reduceEq, Int.reduceNeg, Int.reduceAdd, Int.reduceSub, Int.reduceMul, reduceIte]
      rfl
    · simp only [ne82, sOne, hc, hw, or_false, false_or, or_true, true_or, UInt8.reduceToNat, TMA, RR, IA, PA, RA0, RA1, RA2, RA3, RA4, RA5, RA6, RA7, RA8, RA9, RA10, Nat.reduceAdd, Nat.reduceMul, Nat.reduceEqDiff, Nat.reduceLeDiff, Nat.reduceLT, Int.reduceToNat, Int.reduceLT, Int.reduceLE, Int.reduceEq, Int.reduceNeg, Int.reduceAdd, Int.reduceSub, Int.reduceMul, reduceIte]
      rfl
  · by_cases hc : 2 ≤ d
    · simp only [ne67, sOne, hc, hw, or_false, false_or, or_true, true_or, UInt8.reduceToNat, TMA, RR, IA, PA, RA0, RA1, RA2, RA3, RA4, RA5, RA6, RA7, RA8, RA9, RA10, Nat.reduceAdd, Nat.reduceMul, Nat.reduceEqDiff, Nat.reduceLeDiff, Nat.reduceLT, Int.reduceToNat, Int.reduceLT, Int.reduceLE, Int.reduceEq, Int.reduceNeg, Int.reduceAdd, Int.reduceSub, Int.reduceMul, reduceIte]
      rfl
    · simp only [ne67, sOne, hc, hw, or_false, false_or, or_true, true_or, UInt8.reduceToNat, TMA, RR, IA, PA, RA0, RA1, RA2, RA3, RA4, RA5, RA6, RA7, RA8, RA9, RA10, Nat.reduceAdd, Nat.reduceMul, Nat.reduceEqDiff, Nat.reduceLeDiff, Nat.reduceLT, Int.reduceToNat, Int.reduceLT, Int.reduceLE, Int.reduceEq, Int.reduceNeg, Int.reduceAdd, Int.reduceSub, Int.reduceMul, reduceIte]
      rfl
  · by_cases hc : d = 1
    · simp only [ne80, sOne, hc, hw, or_false, false_or, or_true, true_or, UInt8.reduceToNat, TMA, RR, IA, PA, RA0, RA1, RA2, RA3, RA4, RA5, RA6, RA7, RA8, RA9, RA10, Nat.reduceAdd, Nat.reduceMul, Nat.reduceEqDiff, Nat.reduceLeDiff, Nat.reduceLT, Int.reduceToNat, Int.reduceLT, Int.reduceLE, Int.reduceEq, Int.reduceNeg, Int.reduceAdd, Int.reduceSub, Int.reduceMul, reduceIte]
      rfl
    · simp only [ne80, sOne, hc, hw, or_false, false_or, or_true, true_or, UInt8.reduceToNat, TMA, RR, IA, PA, RA0, RA1, RA2, RA3, RA4, RA5, RA6, RA7, RA8, RA9, RA10, Nat.reduceAdd, Nat.reduceMul, Nat.reduceEqDiff, Nat.reduceLeDiff, Nat.reduceLT, Int.reduceToNat, Int.reduceLT, Int.reduceLE, Int.reduceEq, Int.reduceNeg, Int.reduceAdd, Int.reduceSub, Int.reduceMul, reduceIte]
      rfl
theorem T_l5Two : TT 67 = some (Tryd.f67, bodyOf Tryd.f67) := by kernel_rfl
set_option maxHeartbeats 4000000 in
theorem l5Two_ev (s : UInt8) (hs : isTwo s = true) (d e : Int) : EE 67 [U s, N d, N e] = some (N (sTwo s d e)) := by
  refine EE_plain T_l5Two (by decide) (Nat.le_of_ble_eq_true rfl) rfl ?_
  rw [show opt 67 = [] from rfl]
  simp only [bodyOf, Tryd.f67, SA]
  by_cases h64 : s = 64
  · subst h64
    by_cases h1 : d = 1 <;> by_cases h2 : e = 0 <;> simp only [h1, h2, sTwo, UInt8.reduceToNat, and_true, and_false, true_and, false_and, TMA, RR, IA, PA, RA0, RA1, RA2, RA3, RA4, RA5, RA6, RA7, RA8, RA9, RA10, Nat.reduceAdd, Nat.reduceMul, Nat.reduceEqDiff, Nat.reduceLeDiff, Nat.reduceLT, Int.reduceToNat, Int.reduceLT, Int.reduceLE, Int.reduceEq, Int.reduceNeg, Int.reduceAdd, Int.reduceSub, Int.reduceMul, reduceIte] <;> rfl
  · have e64 : ¬ ((s.toNat : Int) = 64) := by
      intro h
      apply h64
      apply UInt8.toNat_inj.1
      have : s.toNat = 64 := by omega
      rw [this]
      rfl
    by_cases h1 : d = 0 <;> by_cases h2 : e = 0 <;> simp only [h64, e64, h1, h2, sTwo, and_true, and_false, true_and, false_and, TMA, RR, IA, PA, RA0, RA1, RA2, RA3, RA4, RA5, RA6, RA7, RA8, RA9, RA10, Nat.reduceAdd, Nat.reduceMul, Nat.reduceEqDiff, Nat.reduceLeDiff, Nat.reduceLT, Int.reduceToNat, Int.reduceLT, Int.reduceLE, Int.reduceEq, Int.reduceNeg, Int.reduceAdd, Int.reduceSub, Int.reduceMul, reduceIte]
end
end Go.Proofs.YtkilalabmbdmkaaDoor.Ev

/-
Terms: the depth of what they give: the implementation, signs with two parts, digits, terms.
-/
namespace Go.Proofs.YtkilalabmbdmkaaDoor.Ev
section
set_option linter.unusedVariables false
set_option linter.unusedSimpArgs false
open Go Go.RowKit
set_option linter.unusedVariables false
set_option linter.unusedSimpArgs false
set_option maxHeartbeats 4000000 in
theorem signTwo_ev (s : UInt8) (hs : isTwo s = true) (d e : Int) : EE 72 [S [s], .s false 2 [N d, N e]] = some (N (sTwo s d e)) := by
  refine EE_plain T_signDepth (by decide) (Nat.le_of_ble_eq_true rfl) rfl ?_
  rw [show opt 72 = [] from rfl]
  simp only [bodyOf, Tryd.f72, SA]
  by_cases h0 : d < 0
  · have hr : sTwo s d e = -1 := by
      unfold sTwo
      repeat' split
      all_goals omega
    simp only [hr, h0, TMA, RR, IA, PA, RA0, RA1, RA2, RA3, RA4, RA5, RA6, RA7, RA8, RA9, RA10, Nat.reduceAdd, Nat.reduceMul, Nat.reduceEqDiff, Nat.reduceLeDiff, Nat.reduceLT, Int.reduceToNat, Int.reduceLT, Int.reduceLE, Int.reduceEq, Int.reduceNeg, Int.reduceAdd, Int.reduceSub, Int.reduceMul, reduceIte]
  by_cases he : e = 0
  case neg =>
    have hr : sTwo s d e = -1 := by
      unfold sTwo
      repeat' split
      all_goals omega
    simp only [hr, h0, he, TMA, RR, IA, PA, RA0, RA1, RA2, RA3, RA4, RA5, RA6, RA7, RA8, RA9, RA10, Nat.reduceAdd, Nat.reduceMul, Nat.reduceEqDiff, Nat.reduceLeDiff, Nat.reduceLT, Int.reduceToNat, Int.reduceLT, Int.reduceLE, Int.reduceEq, Int.reduceNeg, Int.reduceAdd, Int.reduceSub, Int.reduceMul, reduceIte]
  subst he
  by_cases h64 : s = 64
  · subst h64
    have hco : EE 60 [S [43, 42, 94, 45, 61, 60], S [64]] = some (B false) := contains_ev [43, 42, 94, 45, 61, 60] 64
    by_cases h1 : d = 1 <;> simp only [h0, h1, hco, sTwo, and_true, and_false, true_and, false_and, TMA, RR, IA, PA, RA0, RA1, RA2, RA3, RA4, RA5, RA6, RA7, RA8, RA9, RA10, Nat.reduceAdd, Nat.reduceMul, Nat.reduceEqDiff, Nat.reduceLeDiff, Nat.reduceLT, Int.reduceToNat, Int.reduceLT, Int.reduceLE, Int.reduceEq, Int.reduceNeg, Int.reduceAdd, Int.reduceSub, Int.reduceMul, reduceIte]
  · have hco : EE 60 [S [43, 42, 94, 45, 61, 60], S [s]] = some (B true) := by
      have h2 : s = 43 ∨ s = 42 ∨ s = 94 ∨ s = 45 ∨ s = 61 ∨ s = 60 ∨ s = 64 := by simpa [isTwo] using hs
      have := contains_ev [43, 42, 94, 45, 61, 60] s
      rw [this]
      rcases h2 with rfl | rfl | rfl | rfl | rfl | rfl | rfl <;> first | rfl | exact absurd rfl h64
    by_cases h1 : d = 0 <;> simp only [h0, h1, hco, h64, sTwo, and_true, and_false, true_and, false_and, TMA, RR, IA, PA, RA0, RA1, RA2, RA3, RA4, RA5, RA6, RA7, RA8, RA9, RA10, Nat.reduceAdd, Nat.reduceMul, Nat.reduceEqDiff, Nat.reduceLeDiff, Nat.reduceLT, Int.reduceToNat, Int.reduceLT, Int.reduceLE, Int.reduceEq, Int.reduceNeg, Int.reduceAdd, Int.reduceSub, Int.reduceMul, reduceIte]
theorem T_digit : TT 56 = some (Tryd.f56, bodyOf Tryd.f56) := by kernel_rfl
/-- Is it a digit? -/
def isDigT : T → Bool
  | .dig _ => true
  | _ => false
theorem digit_cells (c : UInt8) (x y : AV) (hx : closed x = true) (hy : closed y = true) : EE 56 [.p [S [c], x, y]] = some (B (isDig c)) := by
  refine EE_plain T_digit (by decide) (Nat.le_of_ble_eq_true rfl) (by simp only [closedL, closed, hx, hy, Bool.and_self]) ?_
  rw [show opt 56 = [] from rfl]
  simp only [bodyOf, Tryd.f56, SA]
  by_cases h1 : c < 48
  · have hd : isDig c = false := by
      have := UInt8.lt_iff_toNat_lt.1 h1
      simp only [UInt8.reduceToNat] at this
      simp only [isDig, Bool.and_eq_false_iff, decide_eq_false_iff_not]
      exact .inl (by omega)
    simp only [hd, h1, hx, hy, TMA, RR, IA, PA, RA0, RA1, RA2, RA3, RA4, RA5, RA6, RA7, RA8, RA9, RA10, Nat.reduceAdd, Nat.reduceMul, Nat.reduceEqDiff, Nat.reduceLeDiff, Nat.reduceLT, Int.reduceToNat, Int.reduceLT, Int.reduceLE, Int.reduceEq, Int.reduceNeg, Int.reduceAdd, Int.reduceSub, Int.reduceMul, reduceIte]
  · have hd : isDig c = (decide (c < 57) || decide (c = 57)) := by
      have h2 : ¬ c.toNat < 48 := fun h => h1 (UInt8.lt_iff_toNat_lt.2 (by simpa using h))
      have e1 : (c < 57) ↔ c.toNat < 57 := by rw [UInt8.lt_iff_toNat_lt]; simp
      have e2 : (c = 57) ↔ c.toNat = 57 := by rw [← UInt8.toNat_inj]; simp
      rw [Bool.eq_iff_iff]
      simp only [isDig, Bool.and_eq_true, Bool.or_eq_true, decide_eq_true_eq, e1, e2]
      omega
    simp only [hd, h1, hx, hy, TMA, RR, IA, PA, RA0, RA1, RA2, RA3, RA4, RA5, RA6, RA7, RA8, RA9, RA10, Nat.reduceAdd, Nat.reduceMul, Nat.reduceEqDiff, Nat.reduceLeDiff, Nat.reduceLT, Int.reduceToNat, Int.reduceLT, Int.reduceLE, Int.reduceEq, Int.reduceNeg, Int.reduceAdd, Int.reduceSub, Int.reduceMul, reduceIte]
theorem var_not_dig {c : UInt8} (h : isVar c = true) : isDig c = false := by
  have : c = 97 ∨ c = 98 ∨ c = 118 ∨ c = 119 ∨ c = 120 ∨ c = 121 ∨ c = 122 := by simpa [isVar] using h
  rcases this with rfl | rfl | rfl | rfl | rfl | rfl | rfl <;> rfl
theorem IsP.closed_s1 (ex : Bool) {a : AV} {x : T} (h : IsP a x) : Ev.closed (.s ex 1 [a]) = true := by simp only [Ev.closed, closedL, h.closed, Bool.and_self]
theorem IsP.closed_s2 (ex : Bool) {a b : AV} {x y : T} (h : IsP a x) (k : IsP b y) : Ev.closed (.s ex 2 [a, b]) = true := by simp only [Ev.closed, closedL, h.closed, k.closed, Bool.and_self]
theorem digit_is {a : AV} {t : T} (h : IsP a t) (hw : WF t) : EE 56 [a] = some (B (isDigT t)) := by
  cases h with
  | dig ex c =>
    have h1 := digit_cells c (S []) (.s ex 0 []) rfl rfl
    rw [show isDig c = true from hw] at h1
    exact h1
  | var ex c =>
    have h1 := digit_cells c (S []) (.s ex 0 []) rfl rfl
    rw [var_not_dig hw] at h1
    exact h1
  | one ex s h =>
    have h1 := digit_cells s (S []) _ rfl (IsP.closed_s1 ex h)
    rw [(one_not hw.1).2] at h1
    exact h1
  | two ex s h k =>
    have h1 := digit_cells s (S []) _ rfl (IsP.closed_s2 ex h k)
    have hd : isDig s = false := by
      have h2 : s = 43 ∨ s = 42 ∨ s = 94 ∨ s = 45 ∨ s = 61 ∨ s = 60 ∨ s = 64 := by simpa [isTwo] using hw.1
      rcases h2 with rfl | rfl | rfl | rfl | rfl | rfl | rfl <;> rfl
    rw [hd] at h1
    exact h1
  | loop ex s v h k =>
    have h1 := digit_cells s (S [v]) _ rfl (IsP.closed_s2 ex h k)
    have hd : isDig s = false := by rcases hw.1 with h | h <;> rw [h] <;> rfl
    rw [hd] at h1
    exact h1
end
end Go.Proofs.YtkilalabmbdmkaaDoor.Ev

/-
Terms: the depth of what they give: the implementation's recursion.
-/
namespace Go.Proofs.YtkilalabmbdmkaaDoor.Ev
section
set_option linter.unusedVariables false
set_option linter.unusedSimpArgs false
open Go Go.RowKit
set_option linter.unusedVariables false
set_option linter.unusedSimpArgs false
/-- A call that is given a plain value and a row, and gives a plain value. -/
theorem call0_vw {C : Sem1} {pf' : FuncId → Nat} {σ : Sto} {key : Nat} {f : FuncId} {id n E sz N' : Nat} {cs : List AV} {y : AV} {r : Value} (hσ : σ id = some (.row E sz N' cs)) (hp : pf' f = 0) (hl : cs.length = n * sz) (hc : closedL cs = true) (hy : plain y = true) (hr : C f [y, .s false n cs] = some (.v r)) :
    callOp C pf' σ key f [y, .w id 0 n] = some (.v r, σ) := by
  unfold callOp
  rw [if_neg (by omega), if_neg (by omega)]
  have h1 : deep σ 8 (.w id 0 n) = some (.s false n cs, [id]) := by
    rw [deep_w 7 hσ (by omega) hc, List.drop_zero, List.take_of_length_le (by omega)]
  have h0 : deep σ 8 y = some (y, []) := by
    cases y <;> first | rfl | simp [plain] at hy
  have h2 : deepC (deep σ 8) [y, .w id 0 n] = some ([y, .s false n cs], [id]) := by
    simp only [deepC, h0, h1, Option.bind_some, Option.map_some, List.append_nil, List.nil_append]
  rw [h2]
  simp only [Option.bind_some, hr]
  rw [if_pos (.inr rfl)]
  rfl
theorem n91 : ¬ ((91 : UInt8) = 123) := by decide
theorem n123 : ¬ ((123 : UInt8) = 91) := by decide
theorem pureK_m (σ : Sto) (f : List UInt8 → Option Int) : pureK σ (.m f) = some (.m f, σ) := rfl
theorem with_ev (f : List UInt8 → Option Int) (k : List UInt8) (n : Int) : EE 71 [.m f, S k, N n] = some (.m (fset f k n)) := EE_hand rfl
theorem T_depth : TT 45 = some (Tryd.f45, bodyOf Tryd.f45) := by kernel_rfl
/-- A map of depths as a function of variables. -/
def Maps (f : List UInt8 → Option Int) (h : UInt8 → Int) : Prop := ∀ c, (f [c]).getD (-1) = h c
theorem maps_set {f : List UInt8 → Option Int} {h : UInt8 → Int} (hm : Maps f h) (v : UInt8) (n : Int) : Maps (fset f [v] n) (hset h v n) := by
  intro c
  unfold fset hset
  by_cases e : c = v
  · simp [e]
  · simp [e, hm c]
set_option maxHeartbeats 4000000 in
theorem depth_ev {a : AV} {t : T} (hp : IsP a t) : WF t → ∀ (f : List UInt8 → Option Int) (h : UInt8 → Int), Maps f h → (∀ c, Bd (h c)) → EE 45 [a, .m f] = some (N (dpt h t)) := by
  induction hp with
  | dig ex c =>
    intro hw f h hm hb
    have hl := loop_is (.dig ex c)
    have hd := digit_is (.dig ex c) hw
    refine EE_few 3 T_depth (by decide) (Nat.le_of_ble_eq_true rfl) rfl ?_
    rw [show opt 45 = [] from rfl]
    simp only [bodyOf, Tryd.f45, SA]
    simp only [hl, hd, isLoop, isDigT, dpt, TMA, RR, IA, PA, RA0, RA1, RA2, RA3, RA4, RA5, RA6, RA7, RA8, RA9, RA10, Nat.reduceAdd, Nat.reduceMul, Nat.reduceEqDiff, Nat.reduceLeDiff, Nat.reduceLT, Int.reduceToNat, Int.reduceLT, Int.reduceLE, Int.reduceEq, Int.reduceNeg, Int.reduceAdd, Int.reduceSub, Int.reduceMul, reduceIte]
  | var ex c =>
    intro hw f h hm hb
    have hl := loop_is (.var ex c)
    have hd := digit_is (.var ex c) hw
    have hc := hm c
    refine EE_few 3 T_depth (by decide) (Nat.le_of_ble_eq_true rfl) rfl ?_
    rw [show opt 45 = [] from rfl]
    simp only [bodyOf, Tryd.f45, SA]
    cases hf : f [c] with
    | none =>
      rw [hf] at hc
      have hc : h c = -1 := hc.symm
      simp only [hl, hd, hf, hc, isLoop, isDigT, dpt, Option.getD_none, Option.isSome_none, TMA, RR, IA, PA, RA0, RA1, RA2, RA3, RA4, RA5, RA6, RA7, RA8, RA9, RA10, Nat.reduceAdd, Nat.reduceMul, Nat.reduceEqDiff, Nat.reduceLeDiff, Nat.reduceLT, Int.reduceToNat, Int.reduceLT, Int.reduceLE, Int.reduceEq, Int.reduceNeg, Int.reduceAdd, Int.reduceSub, Int.reduceMul, reduceIte]
    | some n =>
      rw [hf] at hc
      have hc : h c = n := hc.symm
      simp only [hl, hd, hf, hc, isLoop, isDigT, dpt, Option.getD_some, Option.isSome_some, TMA, RR, IA, PA, RA0, RA1, RA2, RA3, RA4, RA5, RA6, RA7, RA8, RA9, RA10, Nat.reduceAdd, Nat.reduceMul, Nat.reduceEqDiff, Nat.reduceLeDiff, Nat.reduceLT, Int.reduceToNat, Int.reduceLT, Int.reduceLE, Int.reduceEq, Int.reduceNeg, Int.reduceAdd, Int.reduceSub, Int.reduceMul, reduceIte]
  | @one ex s a x hp ih =>
    intro hw f h hm hb
    have hl := loop_is (.one ex s hp)
    have hx := ih hw.2 f h hm hb
    have hs := signOne_ev s hw.1 (dpt h x) (dpt_bd x h hb)
    refine EE_few 3 T_depth (by decide) (Nat.le_of_ble_eq_true rfl) (by simp only [closedL, closed, hp.closed, Bool.and_self]) ?_
    rw [show opt 45 = [] from rfl]
    simp only [bodyOf, Tryd.f45, SA]
    simp only [hl, hx, hp.closed, rounds_rd, isLoop, dpt, TMA, RR, IA, PA, RA0, RA1, RA2, RA3, RA4, RA5, RA6, RA7, RA8, RA9, RA10, Nat.reduceAdd, Nat.reduceMul, Nat.reduceEqDiff, Nat.reduceLeDiff, Nat.reduceLT, Int.reduceToNat, Int.reduceLT, Int.reduceLE, Int.reduceEq, Int.reduceNeg, Int.reduceAdd, Int.reduceSub, Int.reduceMul, reduceIte]
    rw [app_s (by decide) rfl rfl rfl (by omega) (by omega) (.inr rfl)]
    simp only [rounds_rd, RR, IA, PA, RA0, RA1, RA2, RA3, RA4, RA5, RA6, RA7, RA8, RA9, RA10, Nat.reduceAdd, Nat.reduceMul, Nat.reduceEqDiff, Nat.reduceLeDiff, Nat.reduceLT, Int.reduceToNat, Int.reduceLT, Int.reduceLE, Int.reduceEq, Int.reduceNeg, Int.reduceAdd, Int.reduceSub, Int.reduceMul, reduceIte]
    rw [call0_vw (E := 3) (sz := 1) (N' := 1) (cs := [N (dpt h x)]) (by rfl) (by rfl) rfl rfl rfl (by exact hs)]
    simp only [RR, IA, PA, RA0, RA1, RA2, RA3, RA4, RA5, RA6, RA7, RA8, RA9, RA10, Nat.reduceAdd, Nat.reduceMul, Nat.reduceEqDiff, Nat.reduceLeDiff, Nat.reduceLT, Int.reduceToNat, Int.reduceLT, Int.reduceLE, Int.reduceEq, Int.reduceNeg, Int.reduceAdd, Int.reduceSub, Int.reduceMul, reduceIte]
  | @two ex s a b x y hp kp ihx ihy =>
    intro hw f h hm hb
    have hl := loop_is (.two ex s hp kp)
    have hx := ihx hw.2.1 f h hm hb
    have hy := ihy hw.2.2 f h hm hb
    have hs := signTwo_ev s hw.1 (dpt h x) (dpt h y)
    refine EE_few 3 T_depth (by decide) (Nat.le_of_ble_eq_true rfl) (by simp only [closedL, closed, hp.closed, kp.closed, Bool.and_self]) ?_
    rw [show opt 45 = [] from rfl]
    simp only [bodyOf, Tryd.f45, SA]
    simp only [hl, hx, hp.closed, kp.closed, rounds_rd, isLoop, dpt, TMA, RR, IA, PA, RA0, RA1, RA2, RA3, RA4, RA5, RA6, RA7, RA8, RA9, RA10, Nat.reduceAdd, Nat.reduceMul, Nat.reduceEqDiff, Nat.reduceLeDiff, Nat.reduceLT, Int.reduceToNat, Int.reduceLT, Int.reduceLE, Int.reduceEq, Int.reduceNeg, Int.reduceAdd, Int.reduceSub, Int.reduceMul, reduceIte]
    rw [app_s (by decide) rfl rfl rfl (by omega) (by omega) (.inr rfl)]
    simp only [hy, hp.closed, kp.closed, rounds_rd, RR, IA, PA, RA0, RA1, RA2, RA3, RA4, RA5, RA6, RA7, RA8, RA9, RA10, Nat.reduceAdd, Nat.reduceMul, Nat.reduceEqDiff, Nat.reduceLeDiff, Nat.reduceLT, Int.reduceToNat, Int.reduceLT, Int.reduceLE, Int.reduceEq, Int.reduceNeg, Int.reduceAdd, Int.reduceSub, Int.reduceMul, reduceIte]
    rw [app_w (by rfl) (by decide) rfl rfl rfl (by omega) (by omega) (by decide)]
    simp only [rounds_rd, RR, IA, PA, RA0, RA1, RA2, RA3, RA4, RA5, RA6, RA7, RA8, RA9, RA10, Nat.reduceAdd, Nat.reduceMul, Nat.reduceEqDiff, Nat.reduceLeDiff, Nat.reduceLT, Int.reduceToNat, Int.reduceLT, Int.reduceLE, Int.reduceEq, Int.reduceNeg, Int.reduceAdd, Int.reduceSub, Int.reduceMul, reduceIte]
    rw [call0_vw (E := 3) (sz := 1) (N' := 2) (cs := [N (dpt h x), N (dpt h y)]) (by rfl) (by rfl) rfl rfl rfl (by exact hs)]
    simp only [RR, IA, PA, RA0, RA1, RA2, RA3, RA4, RA5, RA6, RA7, RA8, RA9, RA10, Nat.reduceAdd, Nat.reduceMul, Nat.reduceEqDiff, Nat.reduceLeDiff, Nat.reduceLT, Int.reduceToNat, Int.reduceLT, Int.reduceLE, Int.reduceEq, Int.reduceNeg, Int.reduceAdd, Int.reduceSub, Int.reduceMul, reduceIte]
  | @loop ex s v a b x y hp kp ihx ihy =>
    intro hw f h hm hb
    have hl := loop_is (.loop ex s v hp kp)
    have hx := ihx hw.2.2.1 f h hm hb
    have hbx := dpt_bd x h hb
    refine EE_few 3 T_depth (by decide) (Nat.le_of_ble_eq_true rfl) (by simp only [closedL, closed, hp.closed, kp.closed, Bool.and_self]) ?_
    rw [show opt 45 = [] from rfl]
    simp only [bodyOf, Tryd.f45, SA]
    by_cases h1 : dpt h x < 1
    · simp only [hl, hx, h1, hp.closed, kp.closed, isLoop, dpt, TMA, RR, IA, PA, RA0, RA1, RA2, RA3, RA4, RA5, RA6, RA7, RA8, RA9, RA10, Nat.reduceAdd, Nat.reduceMul, Nat.reduceEqDiff, Nat.reduceLeDiff, Nat.reduceLT, Int.reduceToNat, Int.reduceLT, Int.reduceLE, Int.reduceEq, Int.reduceNeg, Int.reduceAdd, Int.reduceSub, Int.reduceMul, reduceIte]
    · obtain ⟨hb1, hb2⟩ := hbx
      have hbs : ∀ c, Bd (hset h v (dpt h x - 1) c) := hset_bd hb v ⟨by omega, by omega⟩
      have hy := ihy hw.2.2.2 _ _ (maps_set hm v (dpt h x - 1)) hbs
      obtain ⟨hy1, hy2⟩ := dpt_bd y _ hbs
      have hw1 : IntKind.i64.wrap (dpt h x - 1) = dpt h x - 1 := by rw [wrap64 (by omega) (by omega)]
      have hwi := with_ev f [v] (dpt h x - 1)
      simp only [dpt, h1, if_false]
      generalize dpt (hset h v (dpt h x - 1)) y = e at hy hy1 hy2 ⊢
      have hw2 : IntKind.i64.wrap (e + 1) = e + 1 := by rw [wrap64 (by omega) (by omega)]
      rcases hw.1 with rfl | rfl
      · by_cases c1 : 0 ≤ e
        · by_cases c2 : e ≤ 2
          · simp only [hl, hx, h1, hy, hw1, hw2, hwi, pureK_m, n91, n123, c1, c2, hp.closed, kp.closed, isLoop, sLoop, TMA, RR, IA, PA, RA0, RA1, RA2, RA3, RA4, RA5, RA6, RA7, RA8, RA9, RA10, Nat.reduceAdd, Nat.reduceMul, Nat.reduceEqDiff, Nat.reduceLeDiff, Nat.reduceLT, Int.reduceToNat, Int.reduceLT, Int.reduceLE, Int.reduceEq, Int.reduceNeg, Int.reduceAdd, Int.reduceSub, Int.reduceMul, reduceIte]
          · have c3 : ¬ e = 0 := by omega
            simp only [hl, hx, h1, hy, hw1, hw2, hwi, pureK_m, n91, n123, c1, c2, c3, hp.closed, kp.closed, isLoop, sLoop, TMA, RR, IA, PA, RA0, RA1, RA2, RA3, RA4, RA5, RA6, RA7, RA8, RA9, RA10, Nat.reduceAdd, Nat.reduceMul, Nat.reduceEqDiff, Nat.reduceLeDiff, Nat.reduceLT, Int.reduceToNat, Int.reduceLT, Int.reduceLE, Int.reduceEq, Int.reduceNeg, Int.reduceAdd, Int.reduceSub, Int.reduceMul, reduceIte]
        · have c3 : ¬ e = 0 := by omega
          simp only [hl, hx, h1, hy, hw1, hw2, hwi, pureK_m, n91, n123, c1, c3, hp.closed, kp.closed, isLoop, sLoop, TMA, RR, IA, PA, RA0, RA1, RA2, RA3, RA4, RA5, RA6, RA7, RA8, RA9, RA10, Nat.reduceAdd, Nat.reduceMul, Nat.reduceEqDiff, Nat.reduceLeDiff, Nat.reduceLT, Int.reduceToNat, Int.reduceLT, Int.reduceLE, Int.reduceEq, Int.reduceNeg, Int.reduceAdd, Int.reduceSub, Int.reduceMul, reduceIte]
      · by_cases c1 : e = 0
        · simp only [hl, hx, h1, hy, hw1, hw2, hwi, pureK_m, n91, n123, c1, hp.closed, kp.closed, isLoop, sLoop, TMA, RR, IA, PA, RA0, RA1, RA2, RA3, RA4, RA5, RA6, RA7, RA8, RA9, RA10, Nat.reduceAdd, Nat.reduceMul, Nat.reduceEqDiff, Nat.reduceLeDiff, Nat.reduceLT, Int.reduceToNat, Int.reduceLT, Int.reduceLE, Int.reduceEq, Int.reduceNeg, Int.reduceAdd, Int.reduceSub, Int.reduceMul, reduceIte]
        · simp only [hl, hx, h1, hy, hw1, hw2, hwi, pureK_m, n91, n123, c1, hp.closed, kp.closed, isLoop, sLoop, TMA, RR, IA, PA, RA0, RA1, RA2, RA3, RA4, RA5, RA6, RA7, RA8, RA9, RA10, Nat.reduceAdd, Nat.reduceMul, Nat.reduceEqDiff, Nat.reduceLeDiff, Nat.reduceLT, Int.reduceToNat, Int.reduceLT, Int.reduceLE, Int.reduceEq, Int.reduceNeg, Int.reduceAdd, Int.reduceSub, Int.reduceMul, reduceIte]
end
end Go.Proofs.YtkilalabmbdmkaaDoor.Ev

/-
Terms: the depth of what they give: the reference's depths of variables.
-/
namespace Go.Proofs.YtkilalabmbdmkaaDoor.Ev
section
set_option linter.unusedVariables false
set_option linter.unusedSimpArgs false
open Go Go.RowKit
set_option linter.unusedVariables false
set_option linter.unusedSimpArgs false
/-- The depths of a and b, and none of others. -/
def h0 : UInt8 → Int := hset (hset (fun _ => -1) 97 1) 98 2
theorem h0_bd : ∀ c, Bd (h0 c) := hset_bd (hset_bd (fun _ => ⟨by omega, by omega⟩) _ ⟨by omega, by omega⟩) _ ⟨by omega, by omega⟩
theorem maps0 : Maps dep0 h0 := maps_set (maps_set (fun c => rfl) 97 1) 98 2
def envR (i : Nat) : List AV := List.replicate i (N (-1)) ++ List.replicate (256 - i) (N 0)
theorem envR_len {i : Nat} (h : i ≤ 256) : (envR i).length = 256 := by simp [envR]; omega
theorem envR_set {i : Nat} (h : i < 256) : (envR i).take i ++ [N (-1)] ++ (envR i).drop (i + 1) = envR (i + 1) := by
  have h1 : (envR i).take i = List.replicate i (N (-1)) := by
    rw [envR, List.take_append_of_le_length (by simp), List.take_of_length_le (by simp)]
  have h2 : (envR i).drop (i + 1) = List.replicate (256 - (i + 1)) (N 0) := by
    rw [envR, List.drop_append]
    simp only [List.length_replicate, List.drop_replicate]
    rw [show i - (i + 1) = 0 by omega, show 256 - i - (i + 1 - i) = 256 - (i + 1) by omega]
    rfl
  rw [h1, h2, envR, List.replicate_succ']
theorem envR_all : envR 256 = envL (fun _ => -1) := by
  unfold envR envL
  rw [show 256 - 256 = 0 from rfl, List.replicate_zero, List.append_nil, List.map_const', List.length_range]
theorem T_l5Start : TT 37 = some (Tryd.f37, bodyOf Tryd.f37) := by kernel_rfl
set_option maxRecDepth 100000 in
theorem l5Start_loop : ∀ (d i n id : Nat) (e : Nat → AV) (σ : Sto) (nx : Nat) (q : Option (Ex × St)),
    i + d = 256 → d < n → roundsE (evC II EE (withOpt [] pf) MX (bodyL Tryd.f37 0)) n ⟨e, σ, nx⟩ = q → e 1 = .r id 0 → e 5 = N i → σ id = some (.ob 87 (envR i)) →
    ∃ e' σ' nx', q = some (.exit 0, ⟨e', σ', nx'⟩) ∧ e' 1 = .r id 0 ∧ σ' id = some (.ob 87 (envR 256)) := by
  intro d
  induction d with
  | zero =>
    intro i n id e σ nx q hd hn hq h1 h5 hσ
    obtain ⟨k, rfl⟩ : ∃ k, n = k + 1 := ⟨n - 1, by omega⟩
    have hi : i = 256 := by omega
    have hc : ¬ ((i : Int) < 256) := by omega
    rw [rounds_rd] at hq
    simp only [bodyL, bodyOf, Tryd.f37, SA, loops, List.nil_append, List.append_nil, List.cons_append, List.getD_cons_zero, List.getD_cons_succ] at hq
    simp only [h1, h5, hc, TMA, RR, IA, PA, RA0, RA1, RA2, RA3, RA4, RA5, RA6, RA7, RA8, RA9, RA10, Nat.reduceAdd, Nat.reduceMul, Nat.reduceEqDiff, Nat.reduceLeDiff, Nat.reduceLT, Int.reduceToNat, Int.reduceLT, Int.reduceLE, Int.reduceEq, Int.reduceNeg, Int.reduceAdd, Int.reduceSub, Int.reduceMul, reduceIte] at hq
    exact ⟨_, _, _, hq.symm, h1, hi ▸ hσ⟩
  | succ d ih =>
    intro i n id e σ nx q hd hn hq h1 h5 hσ
    obtain ⟨k, rfl⟩ : ∃ k, n = k + 1 := ⟨n - 1, by omega⟩
    rw [rounds_rd] at hq
    have hc : ((i : Int) < 256) := by omega
    have hz : (0 : Int) ≤ (i : Int) := by omega
    have hc2 : ((i : Int) < ((256 : Nat) : Int)) := by omega
    have hw : IntKind.i64.wrap ((i : Int) + 1) = ((i + 1 : Nat) : Int) := by rw [wrap64 (by omega) (by omega)]; rfl
    have hle : i + 1 ≤ (envR i).length := by rw [envR_len (by omega)]; omega
    simp only [bodyL, bodyOf, Tryd.f37, SA, loops, List.nil_append, List.append_nil, List.cons_append, List.getD_cons_zero, List.getD_cons_succ] at hq
    simp only [h1, h5, hc, hc2, hz, hw, hσ, hle, Int.toNat_natCast, Nat.mul_one, Nat.zero_add, TMA, RR, IA, PA, RA0, RA1, RA2, RA3, RA4, RA5, RA6, RA7, RA8, RA9, RA10, Nat.reduceAdd, Nat.reduceMul, Nat.reduceEqDiff, Nat.reduceLeDiff, Nat.reduceLT, Int.reduceToNat, Int.reduceLT, Int.reduceLE, Int.reduceEq, Int.reduceNeg, Int.reduceAdd, Int.reduceSub, Int.reduceMul, reduceIte] at hq
    refine ih (i + 1) k id _ _ _ q (by omega) (by omega) hq h1 rfl ?_
    simp only [upd, if_true]
    exact congrArg (fun l => some (Slot.ob 87 l)) (envR_set (show i < 256 by omega))
theorem zeros_cells : List.map ofC (List.replicate 256 (Value.int .i64 0)) = envR 0 := by
  rw [List.map_replicate]
  rfl
theorem zeros_leaf : (envR 0).all leafOk = true := by
  unfold envR
  rw [List.replicate_zero, List.nil_append, List.all_eq_true]
  intro x hx
  rw [List.eq_of_mem_replicate hx]
  rfl
theorem zeros_closed : closedL (envR 0) = true := by
  unfold envR
  rw [List.replicate_zero, List.nil_append]
  generalize 256 - 0 = n
  induction n with
  | zero => rfl
  | succ n ih => rw [List.replicate_succ, closedL, ih]; rfl
set_option maxRecDepth 100000 in
theorem l5Start_ev : EE 37 [] = some (.o 87 0 0 (envL h0)) := by
  refine EE_new T_l5Start rfl (Nat.le_of_ble_eq_true rfl) rfl ?_
  rw [show opt 37 = [] from rfl]
  simp only [bodyOf, Tryd.f37, SA]
  simp only [zeros_cells, zeros_leaf, zeros_closed, RR, IA, PA, RA0, RA1, RA2, RA3, RA4, RA5, RA6, RA7, RA8, RA9, RA10, Nat.reduceAdd, Nat.reduceMul, Nat.reduceEqDiff, Nat.reduceLeDiff, Nat.reduceLT, Int.reduceToNat, Int.reduceLT, Int.reduceLE, Int.reduceEq, Int.reduceNeg, Int.reduceAdd, Int.reduceSub, Int.reduceMul, reduceIte]
  generalize hq : roundsE _ _ _ = q
  obtain ⟨e', σ', nx', rfl, h1, h2⟩ := l5Start_loop 256 0 MX 8 _ _ _ q rfl (by decide) hq rfl rfl rfl
  have c1 : (97 : Int) < ((256 : Nat) : Int) := by omega
  have c2 : (98 : Int) < ((256 : Nat) : Int) := by omega
  have s1 : (envL (fun _ => -1)).take 97 ++ [AV.v (.int .i64 1)] ++ (envL (fun _ => -1)).drop 98 = envL (hset (fun _ => -1) 97 1) := envL_set (fun _ => -1) 97 1
  have s2 : (envL (hset (fun _ => -1) 97 1)).take 98 ++ [AV.v (.int .i64 2)] ++ (envL (hset (fun _ => -1) 97 1)).drop 99 = envL (hset (hset (fun _ => -1) 97 1) 98 2) := envL_set (hset (fun _ => -1) 97 1) 98 2
  have l1 : 98 ≤ (envL (fun _ => -1)).length := by rw [envL_len]; omega
  have l2 : 99 ≤ (envL (hset (fun _ => -1) 97 1)).length := by rw [envL_len]; omega
  rw [envR_all] at h2
  simp only [h1, h2, c1, c2, s1, s2, l1, l2, RR, IA, PA, RA0, RA1, RA2, RA3, RA4, RA5, RA6, RA7, RA8, RA9, RA10, Nat.reduceAdd, Nat.reduceMul, Nat.reduceEqDiff, Nat.reduceLeDiff, Nat.reduceLT, Int.reduceToNat, Int.reduceLT, Int.reduceLE, Int.reduceEq, Int.reduceNeg, Int.reduceAdd, Int.reduceSub, Int.reduceMul, reduceIte]
  exact newK_ret (id := 8) (by simp only [IA, PA, RA0, RA1, RA2, RA3, RA4, RA5, RA6, RA7, RA8, RA9, RA10, Nat.reduceAdd, Nat.reduceMul, Nat.reduceEqDiff, Nat.reduceLeDiff, Nat.reduceLT, Int.reduceToNat, Int.reduceLT, Int.reduceLE, Int.reduceEq, Int.reduceNeg, Int.reduceAdd, Int.reduceSub, Int.reduceMul, reduceIte]) (by rfl) (envL_closed h0)
end
end Go.Proofs.YtkilalabmbdmkaaDoor.Ev

/-
Terms: the depth of what they give: the reference's recursion.
-/
namespace Go.Proofs.YtkilalabmbdmkaaDoor.Ev
section
set_option linter.unusedVariables false
set_option linter.unusedSimpArgs false
open Go Go.RowKit
set_option linter.unusedVariables false
set_option linter.unusedSimpArgs false
def LB : List Nat := [oBox 33, oReg 7, oReg 10]
theorem LB_eq : [oBox 33, oReg 7, oReg 10] = LB := rfl
theorem plF_LB : plF LB = true := by decide
theorem onB : oMaskOn ∉ LB := by decide
theorem strB : oStrict ∉ LB := by decide
theorem withOptB_lo {pf : FuncId → Nat} {f : Nat} (h : f < 1000000000) : withOpt LB pf f = pf f := withOpt_lo h plF_LB
theorem strictPB_lo {pf : FuncId → Nat} {f : Nat} (h : f < 1000000000) : strictP LB pf f = pf f := strictP_lo h plF_LB
theorem lookB {pf : FuncId → Nat} {σ : Sto} : lookAt (withOpt LB pf) σ = σ := look_opt strB onB
theorem baseB {pf : FuncId → Nat} (b : Nat) : atBase (withOpt LB pf) b = withOpt LB pf := base_opt onB b
theorem stB {pf : FuncId → Nat} (t' : Nat) (x : AV) : stOk (withOpt LB pf) t' x = true := st_opt onB t' x
theorem strictB_on {pf : FuncId → Nat} : strictP LB pf oMaskOn = 0 := by
  unfold strictP
  rw [if_neg (by decide), with_hi (by decide), if_neg onB]
theorem baseSB {pf : FuncId → Nat} (b : Nat) : atBase (strictP LB pf) b = strictP LB pf := by
  unfold atBase
  rw [strictB_on]
  rfl
theorem stSB {pf : FuncId → Nat} (t' : Nat) (x : AV) : stOk (strictP LB pf) t' x = true := by
  unfold stOk
  rw [strictB_on]
  rfl
theorem regB_off {pf : FuncId → Nat} (id : Nat) (h : decide (id = 7) = false ∧ decide (id = 10) = false) : inReg (withOpt LB pf) id = withOpt LB pf := by
  simp only [decide_eq_false_iff_not] at h
  exact reg_opt (by
    simp only [LB, List.mem_cons, List.not_mem_nil, or_false, oBox, oReg]
    omega) (by
    simp only [LB, List.mem_cons, List.not_mem_nil, or_false, oBox, oReg, oLow]
    omega)
theorem regB_7 {pf : FuncId → Nat} : inReg (withOpt LB pf) 7 = strictP LB pf := by
  have h1 : withOpt LB pf (oReg 7) = 1 := by rw [with_hi (by decide), if_pos (by decide)]
  unfold inReg
  rw [if_pos h1]
  rfl
theorem regB_10 {pf : FuncId → Nat} : inReg (withOpt LB pf) 10 = strictP LB pf := by
  have h1 : withOpt LB pf (oReg 10) = 1 := by rw [with_hi (by decide), if_pos (by decide)]
  unfold inReg
  rw [if_pos h1]
  rfl
theorem bxB {pf : FuncId → Nat} {σ : Sto} {key : Nat} (ls : List AV) : bxK (withOpt LB pf) σ key 33 ls = if ls.all leafOk = true then some (.p ls, σ) else none := bxK_p (by
  rw [with_hi (by decide), if_pos (by decide)]) ls
theorem T_depthS : TT 38 = some (Tryd.f38, bodyOf Tryd.f38) := by kernel_rfl
theorem i48 : decide (((48 : UInt8).toNat : Int) = 48) = true := by decide
theorem i97 : decide (((97 : UInt8).toNat : Int) = 48) = false := by decide
theorem i91 : decide (((91 : UInt8).toNat : Int) = 123) = false := by decide
theorem i123 : decide (((123 : UInt8).toNat : Int) = 123) = true := by decide
theorem goesN (t : T) : [AV.a (encN t)].all goes = true := by simp only [List.all_cons, List.all_nil, goes, closed, encN_closed, Bool.and_self]
set_option maxHeartbeats 4000000 in
set_option maxRecDepth 100000 in
theorem depthS_ev : ∀ t, WF t → ∀ h, (∀ c, Bd (h c)) → EE 38 [lent 87 (envL h), .a (encN t)] = some (.t [N (dpt h t), .t [lent 87 (envL h), .a (encN t)]]) := by
  intro t
  induction t with
  | dig c =>
    intro hw h hb
    refine EE_lend T_depthS rfl (Nat.le_of_ble_eq_true rfl) (envL_closed h) (goesN _) ?_
    rw [show opt 38 = LB from rfl]
    simp only [bodyOf, Tryd.f38, SA]
    simp only [encN, dpt, i48, i97, i91, i123, lookB, baseB, stB, baseSB, stSB, regB_off, regB_7, regB_10, bxB, withOptB_lo, strictPB_lo, TMA, RR, IA, PA, RA0, RA1, RA2, RA3, RA4, RA5, RA6, RA7, RA8, RA9, RA10, Nat.reduceAdd, Nat.reduceMul, Nat.reduceEqDiff, Nat.reduceLeDiff, Nat.reduceLT, Int.reduceToNat, Int.reduceLT, Int.reduceLE, Int.reduceEq, Int.reduceNeg, Int.reduceAdd, Int.reduceSub, Int.reduceMul, reduceIte]
    exact out_one (x := N 0) (by simp only [IA, PA, RA0, RA1, RA2, RA3, RA4, RA5, RA6, RA7, RA8, RA9, RA10, Nat.reduceAdd, Nat.reduceMul, Nat.reduceEqDiff, Nat.reduceLeDiff, Nat.reduceLT, Int.reduceToNat, Int.reduceLT, Int.reduceLE, Int.reduceEq, Int.reduceNeg, Int.reduceAdd, Int.reduceSub, Int.reduceMul, reduceIte]) rfl (by rfl) (envL_closed h) (goesN (.dig c))
  | var c =>
    intro hw h hb
    have hv0 : (0 : Int) ≤ (c.toNat : Int) := by omega
    have hv1 : (c.toNat : Int) < 256 := by have := c.toNat_lt; omega
    have hv3 : (c.toNat : Int) < ((256 : Nat) : Int) := hv1
    have hg := envL_get h c
    refine EE_lend T_depthS rfl (Nat.le_of_ble_eq_true rfl) (envL_closed h) (goesN _) ?_
    rw [show opt 38 = LB from rfl]
    simp only [bodyOf, Tryd.f38, SA]
    simp only [encN, dpt, hv0, hv1, hv3, hg, Int.toNat_natCast, Nat.mul_one, Nat.zero_add, i48, i97, i91, i123, lookB, baseB, stB, baseSB, stSB, regB_off, regB_7, regB_10, bxB, withOptB_lo, strictPB_lo, TMA, RR, IA, PA, RA0, RA1, RA2, RA3, RA4, RA5, RA6, RA7, RA8, RA9, RA10, Nat.reduceAdd, Nat.reduceMul, Nat.reduceEqDiff, Nat.reduceLeDiff, Nat.reduceLT, Int.reduceToNat, Int.reduceLT, Int.reduceLE, Int.reduceEq, Int.reduceNeg, Int.reduceAdd, Int.reduceSub, Int.reduceMul, reduceIte]
    exact out_one (x := N (h c)) (by simp only [IA, PA, RA0, RA1, RA2, RA3, RA4, RA5, RA6, RA7, RA8, RA9, RA10, Nat.reduceAdd, Nat.reduceMul, Nat.reduceEqDiff, Nat.reduceLeDiff, Nat.reduceLT, Int.reduceToNat, Int.reduceLT, Int.reduceLE, Int.reduceEq, Int.reduceNeg, Int.reduceAdd, Int.reduceSub, Int.reduceMul, reduceIte]) rfl (by rfl) (envL_closed h) (goesN (.var c))
  | one s x ih =>
    intro hw h hb
    have hx := ih hw.2 h hb
    have h1 := l5One_ev s hw.1 (dpt h x) (dpt_bd x h hb)
    refine EE_lend T_depthS rfl (Nat.le_of_ble_eq_true rfl) (envL_closed h) (goesN _) ?_
    rw [show opt 38 = LB from rfl]
    simp only [bodyOf, Tryd.f38, SA]
    simp only [encN, dpt, i48, i97, i91, i123, lookB, baseB, stB, baseSB, stSB, regB_off, regB_7, regB_10, bxB, withOptB_lo, strictPB_lo, TMA, RR, IA, PA, RA0, RA1, RA2, RA3, RA4, RA5, RA6, RA7, RA8, RA9, RA10, Nat.reduceAdd, Nat.reduceMul, Nat.reduceEqDiff, Nat.reduceLeDiff, Nat.reduceLT, Int.reduceToNat, Int.reduceLT, Int.reduceLE, Int.reduceEq, Int.reduceNeg, Int.reduceAdd, Int.reduceSub, Int.reduceMul, reduceIte]
    rw [call_ob_v (by rfl) (by rfl) (envL_closed h) (goesN _) hx (envL_closed h) rfl (show 1 ≤ 4 by decide)]
    simp only [h1, i48, i97, i91, i123, lookB, baseB, stB, baseSB, stSB, regB_off, regB_7, regB_10, bxB, withOptB_lo, strictPB_lo, TMA, RR, IA, PA, RA0, RA1, RA2, RA3, RA4, RA5, RA6, RA7, RA8, RA9, RA10, Nat.reduceAdd, Nat.reduceMul, Nat.reduceEqDiff, Nat.reduceLeDiff, Nat.reduceLT, Int.reduceToNat, Int.reduceLT, Int.reduceLE, Int.reduceEq, Int.reduceNeg, Int.reduceAdd, Int.reduceSub, Int.reduceMul, reduceIte]
    exact out_one (x := N _) (by simp only [IA, PA, RA0, RA1, RA2, RA3, RA4, RA5, RA6, RA7, RA8, RA9, RA10, Nat.reduceAdd, Nat.reduceMul, Nat.reduceEqDiff, Nat.reduceLeDiff, Nat.reduceLT, Int.reduceToNat, Int.reduceLT, Int.reduceLE, Int.reduceEq, Int.reduceNeg, Int.reduceAdd, Int.reduceSub, Int.reduceMul, reduceIte]) rfl (by rfl) (envL_closed h) (goesN (.one s x))
  | two s x y ihx ihy =>
    intro hw h hb
    have hx := ihx hw.2.1 h hb
    have hy := ihy hw.2.2 h hb
    have h1 := l5Two_ev s hw.1 (dpt h x) (dpt h y)
    refine EE_lend T_depthS rfl (Nat.le_of_ble_eq_true rfl) (envL_closed h) (goesN _) ?_
    rw [show opt 38 = LB from rfl]
    simp only [bodyOf, Tryd.f38, SA]
    simp only [encN, dpt, i48, i97, i91, i123, lookB, baseB, stB, baseSB, stSB, regB_off, regB_7, regB_10, bxB, withOptB_lo, strictPB_lo, TMA, RR, IA, PA, RA0, RA1, RA2, RA3, RA4, RA5, RA6, RA7, RA8, RA9, RA10, Nat.reduceAdd, Nat.reduceMul, Nat.reduceEqDiff, Nat.reduceLeDiff, Nat.reduceLT, Int.reduceToNat, Int.reduceLT, Int.reduceLE, Int.reduceEq, Int.reduceNeg, Int.reduceAdd, Int.reduceSub, Int.reduceMul, reduceIte]
    rw [call_ob_v (by rfl) (by rfl) (envL_closed h) (goesN _) hx (envL_closed h) rfl (show 1 ≤ 4 by decide)]
    simp only [i48, i97, i91, i123, lookB, baseB, stB, baseSB, stSB, regB_off, regB_7, regB_10, bxB, withOptB_lo, strictPB_lo, TMA, RR, IA, PA, RA0, RA1, RA2, RA3, RA4, RA5, RA6, RA7, RA8, RA9, RA10, Nat.reduceAdd, Nat.reduceMul, Nat.reduceEqDiff, Nat.reduceLeDiff, Nat.reduceLT, Int.reduceToNat, Int.reduceLT, Int.reduceLE, Int.reduceEq, Int.reduceNeg, Int.reduceAdd, Int.reduceSub, Int.reduceMul, reduceIte]
    rw [call_ob_v (by rfl) (by rfl) (envL_closed h) (goesN _) hy (envL_closed h) rfl (show 1 ≤ 4 by decide)]
    simp only [h1, i48, i97, i91, i123, lookB, baseB, stB, baseSB, stSB, regB_off, regB_7, regB_10, bxB, withOptB_lo, strictPB_lo, TMA, RR, IA, PA, RA0, RA1, RA2, RA3, RA4, RA5, RA6, RA7, RA8, RA9, RA10, Nat.reduceAdd, Nat.reduceMul, Nat.reduceEqDiff, Nat.reduceLeDiff, Nat.reduceLT, Int.reduceToNat, Int.reduceLT, Int.reduceLE, Int.reduceEq, Int.reduceNeg, Int.reduceAdd, Int.reduceSub, Int.reduceMul, reduceIte]
    exact out_one (x := N _) (by simp only [IA, PA, RA0, RA1, RA2, RA3, RA4, RA5, RA6, RA7, RA8, RA9, RA10, Nat.reduceAdd, Nat.reduceMul, Nat.reduceEqDiff, Nat.reduceLeDiff, Nat.reduceLT, Int.reduceToNat, Int.reduceLT, Int.reduceLE, Int.reduceEq, Int.reduceNeg, Int.reduceAdd, Int.reduceSub, Int.reduceMul, reduceIte]) rfl (by rfl) (envL_closed h) (goesN (.two s x y))
  | loop s v x y ihx ihy =>
    intro hw h hb
    have hx := ihx hw.2.2.1 h hb
    obtain ⟨hb1, hb2⟩ := dpt_bd x h hb
    have hg := envL_get h v
    have hv0 : (0 : Int) ≤ (v.toNat : Int) := by omega
    have hv1 : (v.toNat : Int) < 256 := by have := v.toNat_lt; omega
    have hv3 : (v.toNat : Int) < ((256 : Nat) : Int) := hv1
    have hv2 : v.toNat < 256 := v.toNat_lt
    have hvz : ¬ ((v.toNat : Int) = 0) := by
      have := hw.2.1
      simp only [isLV, Bool.and_eq_true, decide_eq_true_eq] at this
      omega
    have hlen : ∀ h, v.toNat + 1 ≤ (envL h).length := fun h => by rw [envL_len]; omega
    refine EE_lend T_depthS rfl (Nat.le_of_ble_eq_true rfl) (envL_closed h) (goesN _) ?_
    rw [show opt 38 = LB from rfl]
    simp only [bodyOf, Tryd.f38, SA]
    by_cases h1 : dpt h x < 1
    · simp only [encN, dpt, h1, hvz, i48, i97, i91, i123, lookB, baseB, stB, baseSB, stSB, regB_off, regB_7, regB_10, bxB, withOptB_lo, strictPB_lo, TMA, RR, IA, PA, RA0, RA1, RA2, RA3, RA4, RA5, RA6, RA7, RA8, RA9, RA10, Nat.reduceAdd, Nat.reduceMul, Nat.reduceEqDiff, Nat.reduceLeDiff, Nat.reduceLT, Int.reduceToNat, Int.reduceLT, Int.reduceLE, Int.reduceEq, Int.reduceNeg, Int.reduceAdd, Int.reduceSub, Int.reduceMul, reduceIte]
      rw [call_ob_v (by rfl) (by rfl) (envL_closed h) (goesN _) hx (envL_closed h) rfl (show 1 ≤ 4 by decide)]
      simp only [h1, hvz, i48, i97, i91, i123, lookB, baseB, stB, baseSB, stSB, regB_off, regB_7, regB_10, bxB, withOptB_lo, strictPB_lo, TMA, RR, IA, PA, RA0, RA1, RA2, RA3, RA4, RA5, RA6, RA7, RA8, RA9, RA10, Nat.reduceAdd, Nat.reduceMul, Nat.reduceEqDiff, Nat.reduceLeDiff, Nat.reduceLT, Int.reduceToNat, Int.reduceLT, Int.reduceLE, Int.reduceEq, Int.reduceNeg, Int.reduceAdd, Int.reduceSub, Int.reduceMul, reduceIte]
      exact out_one (x := N _) (by simp only [IA, PA, RA0, RA1, RA2, RA3, RA4, RA5, RA6, RA7, RA8, RA9, RA10, Nat.reduceAdd, Nat.reduceMul, Nat.reduceEqDiff, Nat.reduceLeDiff, Nat.reduceLT, Int.reduceToNat, Int.reduceLT, Int.reduceLE, Int.reduceEq, Int.reduceNeg, Int.reduceAdd, Int.reduceSub, Int.reduceMul, reduceIte]) rfl (by rfl) (envL_closed h) (goesN (.loop s v x y))
    · have hbs : ∀ c, Bd (hset h v (dpt h x - 1) c) := hset_bd hb v ⟨by omega, by omega⟩
      have hy := ihy hw.2.2.2 _ hbs
      obtain ⟨hy1, hy2⟩ := dpt_bd y _ hbs
      have hw1 : IntKind.i64.wrap (dpt h x - 1) = dpt h x - 1 := by rw [wrap64 (by omega) (by omega)]
      have hs1 := envL_set h v (dpt h x - 1)
      have hs2 := envL_set (hset h v (dpt h x - 1)) v (h v)
      rw [show hset (hset h v (dpt h x - 1)) v (h v) = h from by
        funext c
        unfold hset
        by_cases e : c = v <;> simp [e]] at hs2
      simp only [encN, dpt, h1, if_false, i48, i97, i91, i123, lookB, baseB, stB, baseSB, stSB, regB_off, regB_7, regB_10, bxB, withOptB_lo, strictPB_lo, TMA, RR, IA, PA, RA0, RA1, RA2, RA3, RA4, RA5, RA6, RA7, RA8, RA9, RA10, Nat.reduceAdd, Nat.reduceMul, Nat.reduceEqDiff, Nat.reduceLeDiff, Nat.reduceLT, Int.reduceToNat, Int.reduceLT, Int.reduceLE, Int.reduceEq, Int.reduceNeg, Int.reduceAdd, Int.reduceSub, Int.reduceMul, reduceIte]
      rw [call_ob_v (by rfl) (by rfl) (envL_closed h) (goesN _) hx (envL_closed h) rfl (show 1 ≤ 4 by decide)]
      generalize dpt (hset h v (dpt h x - 1)) y = e at hy hy1 hy2 ⊢
      have hw2 : IntKind.i64.wrap (e + 1) = e + 1 := by rw [wrap64 (by omega) (by omega)]
      simp only [h1, hvz, hv0, hv1, hv3, hg, hw1, hlen, hs1, Int.toNat_natCast, Nat.mul_one, Nat.zero_add, i48, i97, i91, i123, lookB, baseB, stB, baseSB, stSB, regB_off, regB_7, regB_10, bxB, withOptB_lo, strictPB_lo, TMA, RR, IA, PA, RA0, RA1, RA2, RA3, RA4, RA5, RA6, RA7, RA8, RA9, RA10, Nat.reduceAdd, Nat.reduceMul, Nat.reduceEqDiff, Nat.reduceLeDiff, Nat.reduceLT, Int.reduceToNat, Int.reduceLT, Int.reduceLE, Int.reduceEq, Int.reduceNeg, Int.reduceAdd, Int.reduceSub, Int.reduceMul, reduceIte]
      rw [call_ob_v (by rfl) (by rfl) (envL_closed _) (goesN _) hy (envL_closed _) rfl (show 1 ≤ 4 by decide)]
      rcases hw.1 with rfl | rfl
      · by_cases c1 : e < 0
        · have c2 : ¬ (0 ≤ e ∧ e ≤ 2) := by omega
          have c3 : ¬ 3 ≤ e := by omega
          simp only [hv0, hv1, hv3, hlen, hs2, c1, c2, c3, hw2, sLoop, Int.toNat_natCast, Nat.mul_one, Nat.zero_add, i48, i97, i91, i123, lookB, baseB, stB, baseSB, stSB, regB_off, regB_7, regB_10, bxB, withOptB_lo, strictPB_lo, TMA, RR, IA, PA, RA0, RA1, RA2, RA3, RA4, RA5, RA6, RA7, RA8, RA9, RA10, Nat.reduceAdd, Nat.reduceMul, Nat.reduceEqDiff, Nat.reduceLeDiff, Nat.reduceLT, Int.reduceToNat, Int.reduceLT, Int.reduceLE, Int.reduceEq, Int.reduceNeg, Int.reduceAdd, Int.reduceSub, Int.reduceMul, reduceIte]
          exact out_one (x := N _) (by simp only [IA, PA, RA0, RA1, RA2, RA3, RA4, RA5, RA6, RA7, RA8, RA9, RA10, Nat.reduceAdd, Nat.reduceMul, Nat.reduceEqDiff, Nat.reduceLeDiff, Nat.reduceLT, Int.reduceToNat, Int.reduceLT, Int.reduceLE, Int.reduceEq, Int.reduceNeg, Int.reduceAdd, Int.reduceSub, Int.reduceMul, reduceIte]) rfl (by rfl) (envL_closed h) (goesN (.loop 91 v x y))
        · by_cases c3 : 3 ≤ e
          · have c2 : ¬ (0 ≤ e ∧ e ≤ 2) := by omega
            simp only [hv0, hv1, hv3, hlen, hs2, c1, c2, c3, hw2, sLoop, Int.toNat_natCast, Nat.mul_one, Nat.zero_add, i48, i97, i91, i123, lookB, baseB, stB, baseSB, stSB, regB_off, regB_7, regB_10, bxB, withOptB_lo, strictPB_lo, TMA, RR, IA, PA, RA0, RA1, RA2, RA3, RA4, RA5, RA6, RA7, RA8, RA9, RA10, Nat.reduceAdd, Nat.reduceMul, Nat.reduceEqDiff, Nat.reduceLeDiff, Nat.reduceLT, Int.reduceToNat, Int.reduceLT, Int.reduceLE, Int.reduceEq, Int.reduceNeg, Int.reduceAdd, Int.reduceSub, Int.reduceMul, reduceIte]
            exact out_one (x := N _) (by simp only [IA, PA, RA0, RA1, RA2, RA3, RA4, RA5, RA6, RA7, RA8, RA9, RA10, Nat.reduceAdd, Nat.reduceMul, Nat.reduceEqDiff, Nat.reduceLeDiff, Nat.reduceLT, Int.reduceToNat, Int.reduceLT, Int.reduceLE, Int.reduceEq, Int.reduceNeg, Int.reduceAdd, Int.reduceSub, Int.reduceMul, reduceIte]) rfl (by rfl) (envL_closed h) (goesN (.loop 91 v x y))
          · have c2 : 0 ≤ e ∧ e ≤ 2 := by omega
            simp only [hv0, hv1, hv3, hlen, hs2, c1, c2, c3, hw2, sLoop, Int.toNat_natCast, Nat.mul_one, Nat.zero_add, i48, i97, i91, i123, lookB, baseB, stB, baseSB, stSB, regB_off, regB_7, regB_10, bxB, withOptB_lo, strictPB_lo, TMA, RR, IA, PA, RA0, RA1, RA2, RA3, RA4, RA5, RA6, RA7, RA8, RA9, RA10, Nat.reduceAdd, Nat.reduceMul, Nat.reduceEqDiff, Nat.reduceLeDiff, Nat.reduceLT, Int.reduceToNat, Int.reduceLT, Int.reduceLE, Int.reduceEq, Int.reduceNeg, Int.reduceAdd, Int.reduceSub, Int.reduceMul, reduceIte]
            exact out_one (x := N _) (by simp only [IA, PA, RA0, RA1, RA2, RA3, RA4, RA5, RA6, RA7, RA8, RA9, RA10, Nat.reduceAdd, Nat.reduceMul, Nat.reduceEqDiff, Nat.reduceLeDiff, Nat.reduceLT, Int.reduceToNat, Int.reduceLT, Int.reduceLE, Int.reduceEq, Int.reduceNeg, Int.reduceAdd, Int.reduceSub, Int.reduceMul, reduceIte]) rfl (by rfl) (envL_closed h) (goesN (.loop 91 v x y))
      · have n91 : ¬ ((123 : UInt8) = 91) := by decide
        by_cases c1 : e = 0
        · simp only [hv0, hv1, hv3, hlen, hs2, c1, n91, hw2, sLoop, Int.toNat_natCast, Nat.mul_one, Nat.zero_add, i48, i97, i91, i123, lookB, baseB, stB, baseSB, stSB, regB_off, regB_7, regB_10, bxB, withOptB_lo, strictPB_lo, TMA, RR, IA, PA, RA0, RA1, RA2, RA3, RA4, RA5, RA6, RA7, RA8, RA9, RA10, Nat.reduceAdd, Nat.reduceMul, Nat.reduceEqDiff, Nat.reduceLeDiff, Nat.reduceLT, Int.reduceToNat, Int.reduceLT, Int.reduceLE, Int.reduceEq, Int.reduceNeg, Int.reduceAdd, Int.reduceSub, Int.reduceMul, reduceIte]
          exact out_one (x := N _) (by simp only [IA, PA, RA0, RA1, RA2, RA3, RA4, RA5, RA6, RA7, RA8, RA9, RA10, Nat.reduceAdd, Nat.reduceMul, Nat.reduceEqDiff, Nat.reduceLeDiff, Nat.reduceLT, Int.reduceToNat, Int.reduceLT, Int.reduceLE, Int.reduceEq, Int.reduceNeg, Int.reduceAdd, Int.reduceSub, Int.reduceMul, reduceIte]) rfl (by rfl) (envL_closed h) (goesN (.loop 123 v x y))
        · simp only [hv0, hv1, hv3, hlen, hs2, c1, n91, hw2, sLoop, Int.toNat_natCast, Nat.mul_one, Nat.zero_add, i48, i97, i91, i123, lookB, baseB, stB, baseSB, stSB, regB_off, regB_7, regB_10, bxB, withOptB_lo, strictPB_lo, TMA, RR, IA, PA, RA0, RA1, RA2, RA3, RA4, RA5, RA6, RA7, RA8, RA9, RA10, Nat.reduceAdd, Nat.reduceMul, Nat.reduceEqDiff, Nat.reduceLeDiff, Nat.reduceLT, Int.reduceToNat, Int.reduceLT, Int.reduceLE, Int.reduceEq, Int.reduceNeg, Int.reduceAdd, Int.reduceSub, Int.reduceMul, reduceIte]
          exact out_one (x := N _) (by simp only [IA, PA, RA0, RA1, RA2, RA3, RA4, RA5, RA6, RA7, RA8, RA9, RA10, Nat.reduceAdd, Nat.reduceMul, Nat.reduceEqDiff, Nat.reduceLeDiff, Nat.reduceLT, Int.reduceToNat, Int.reduceLT, Int.reduceLE, Int.reduceEq, Int.reduceNeg, Int.reduceAdd, Int.reduceSub, Int.reduceMul, reduceIte]) rfl (by rfl) (envL_closed h) (goesN (.loop 123 v x y))
end
end Go.Proofs.YtkilalabmbdmkaaDoor.Ev

/-
The engine, part 33: slices that grow in loops; cells of a row that are written.
-/
namespace Go.Proofs.YtkilalabmbdmkaaDoor.Ev
section
set_option linter.unusedVariables false
set_option linter.unusedSimpArgs false
open Go Go.RowKit
set_option linter.unusedVariables false
set_option linter.unusedSimpArgs false
variable {I : Tab} {C : Sem1} {pf : FuncId → Nat} {m : Nat} {e : Nat → AV} {σ : Sto} {key : Nat}

/-- A slice that was made empty or grown here: n elements, the cells cs. -/
def Lst (σ : Sto) (nx E sz : Nat) (v : AV) (n : Nat) (cs : List AV) : Prop :=
  (v = .s true 0 [] ∧ n = 0 ∧ cs = []) ∨ ∃ id, id < nx ∧ v = .w id 0 n ∧ σ id = some (.row E sz n cs) ∧ cs.length = n * sz
/-- The store behind an append. -/
def appSto (σ : Sto) (key E sz : Nat) (v : AV) (n : Nat) (cs : List AV) : Sto :=
  match v with
  | .w id _ _ => upd (upd σ id none) key (some (.row E sz n cs))
  | _ => upd σ key (some (.row E sz n cs))
theorem appSto_key (E sz : Nat) (v : AV) (n : Nat) (cs : List AV) : appSto σ key E sz v n cs key = some (.row E sz n cs) := by
  cases v <;> simp [appSto, upd]
theorem appSto_other {E sz : Nat} {v : AV} {n : Nat} {cs : List AV} {i : Nat} (h1 : i ≠ key) (h2 : ∀ id lo k, v = .w id lo k → i ≠ id) : appSto σ key E sz v n cs i = σ i := by
  cases v
  case w id lo k => simp [appSto, upd, h1, h2 id lo k rfl]
  all_goals simp [appSto, upd, h1]
theorem lst_app {nx E sz by_ : Nat} {k : TK} {z : List Value} {v : AV} {n m : Nat} {cs news : List AV} (h : Lst σ nx E sz v n cs) (h1 : 0 < sz) (h2 : news.length = m * sz) (h3 : news.all leafOk = true) (h4 : m ≠ 0) (h5 : (n + m) * by_ ≤ 140737488355328) (h6 : n + m ≤ 9223372036854775807) (hk : nx ≤ key) :
    appK σ key E ⟨k, sz, by_, z⟩ v (some (m, news)) = some (.w key 0 (n + m), appSto σ key E sz v (n + m) (cs ++ news)) := by
  rcases h with ⟨rfl, rfl, rfl⟩ | ⟨id, hid, rfl, hσ, hl⟩
  · rw [app_s h1 h2 h3 (by simp) h6 h5 (.inl h4)]
    rfl
  · rw [app_w hσ h1 h2 h3 hl h6 h5 (by omega)]
    rfl
theorem lst_key {E sz : Nat} {v : AV} {n nx : Nat} {cs : List AV} (hl : cs.length = n * sz) (hk : key < nx) : Lst (appSto σ key E sz v n cs) nx E sz (.w key 0 n) n cs := .inr ⟨key, hk, rfl, appSto_key E sz v n cs, hl⟩
theorem lst_nil (σ : Sto) (nx E sz : Nat) : Lst σ nx E sz (.s true 0 []) 0 [] := .inl ⟨rfl, rfl, rfl⟩
theorem lst_mono {nx nx' E sz : Nat} {v : AV} {n : Nat} {cs : List AV} (h : Lst σ nx E sz v n cs) (hn : nx ≤ nx') : Lst σ nx' E sz v n cs := by
  rcases h with h | ⟨id, h1, h2⟩
  · exact .inl h
  · exact .inr ⟨id, by omega, h2⟩
/-- What a function hands over that way: a row, or the empty slice that it made. -/
def lstR (E sz n : Nat) (cs : List AV) (v : AV) : AV := match v with | .w .. => .o E sz n cs | v => v
theorem give_lst {nx E sz : Nat} {v : AV} {n : Nat} {cs : List AV} (h : Lst σ nx E sz v n cs) (hc : closedL cs = true) : giveAll σ [v] = some (lstR E sz n cs v) := by
  rcases h with ⟨rfl, rfl, rfl⟩ | ⟨id, _, rfl, hσ, _⟩
  · exact giveAll_s rfl
  · exact give_row hσ hc
theorem lstR_pos {nx E sz : Nat} {v : AV} {n : Nat} {cs : List AV} (h : Lst σ nx E sz v n cs) (hn : n ≠ 0) : lstR E sz n cs v = .o E sz n cs := by
  rcases h with ⟨rfl, rfl, rfl⟩ | ⟨id, _, rfl, hσ, _⟩
  · exact absurd rfl hn
  · rfl
theorem len_lst {nx E sz : Nat} {v : AV} {n : Nat} {cs : List AV} (h : Lst σ nx E sz v n cs) {t : Nat} {a b : Nat} {c : List Value} : lenK σ v (some ⟨.sl t, a, b, c⟩) = some (N n, σ) := by
  rcases h with ⟨rfl, rfl, rfl⟩ | ⟨id, _, rfl, hσ, _⟩ <;> rfl
/-- The front of a row. -/
theorem cut_w_hi (sz : Nat) (id lo n : Nat) (k : IntKind) (i : Int) : cut sz (.w id lo n) none (some (.v (.int k i))) = if 0 ≤ i ∧ i ≤ (n : Int) then some (.w id lo i.toNat) else none := by
  simp only [cut, bound]
  split
  · simp
  · rfl
theorem cut_w_lo (sz : Nat) (id lo n : Nat) (k : IntKind) (i : Int) : cut sz (.w id lo n) (some (.v (.int k i))) none = if 0 ≤ i ∧ i ≤ (n : Int) then some (.w id (lo + i.toNat * sz) (n - i.toNat)) else none := by
  simp only [cut, bound, Option.bind_some]
  split
  · simp
  · rfl
/-- A cell written. -/
theorem set_at {pre post : List AV} {x y : AV} {i : Nat} (h : pre.length = i) : setRange (pre ++ x :: post) i [y] = some (pre ++ y :: post) := by
  subst h
  rw [setRange_eq, if_pos (by simp)]
  simp
end
end Go.Proofs.YtkilalabmbdmkaaDoor.Ev

/-
The engine, part 34: objects that are lent with rows of their own.
-/
namespace Go.Proofs.YtkilalabmbdmkaaDoor.Ev
section
set_option linter.unusedVariables false
set_option linter.unusedSimpArgs false
open Go Go.RowKit
set_option linter.unusedVariables false
set_option linter.unusedSimpArgs false
section
variable {I : Tab} {C : Sem1} {pf : FuncId → Nat} {m : Nat} {e : Nat → AV} {σ : Sto} {key : Nat}

/-- A row of an object: is it there, its elements' type, how many cells each, how many, the cells. -/
structure RS where
  b : Bool
  E : Nat
  sz : Nat
  n : Nat
  cs : List AV
def rsV (o : RS) : AV := if o.b = true then .o o.E o.sz o.n o.cs else .s true 0 []
def rsOk (o : RS) : Prop := o.cs.length = o.n * o.sz ∧ closedL o.cs = true ∧ (o.b = false → o.n = 0 ∧ o.cs = [])
/-- Cells of an object that are rows, and their numbers. -/
inductive RwL (σ : Sto) : List RS → List AV → List Nat → Prop
  | nil : RwL σ [] [] []
  | no {o : RS} {os : List RS} {ds : List AV} {L : List Nat} (h : rsOk o) (hb : o.b = false) (k : RwL σ os ds L) : RwL σ (o :: os) (.s true 0 [] :: ds) L
  | yes {o : RS} {os : List RS} {ds : List AV} {L : List Nat} {r : Nat} (h : rsOk o) (hb : o.b = true) (hσ : σ r = some (.row o.E o.sz o.n o.cs)) (k : RwL σ os ds L) : RwL σ (o :: os) (.w r 0 o.n :: ds) (r :: L)
theorem leafP_row {r E sz n : Nat} {cs : List AV} (hσ : σ r = some (.row E sz n cs)) (hc : closedL cs = true) : leafP σ (.w r 0 n) = some (.o E sz n cs, [r]) := by
  simp only [leafP, hσ, Nat.le_refl, if_true, tk]
  have h2 : deepC (deep σ 8) cs = some (cs, []) := deepL_closed 8 hc
  rw [h2]
  simp
theorem RwL.leaf : ∀ {os : List RS} {ds : List AV} {L : List Nat}, RwL σ os ds L → deepC (leafP σ) ds = some (os.map rsV, L)
  | _, _, _, .nil => rfl
  | _, _, _, .no h hb k => by
    simp only [deepC, leaf_closed (show closed (.s true 0 []) = true from rfl), Option.bind_some, k.leaf, Option.map_some, List.map_cons, rsV, hb, List.nil_append]
    rfl
  | _, _, _, .yes h hb hσ k => by
    simp only [deepC, leafP_row hσ h.2.1, Option.bind_some, k.leaf, Option.map_some, List.map_cons, rsV, hb, if_true, List.singleton_append]
theorem RwL.frame {σ' : Sto} : ∀ {os : List RS} {ds : List AV} {L : List Nat}, RwL σ os ds L → (∀ r ∈ L, σ' r = σ r) → RwL σ' os ds L
  | _, _, _, .nil, _ => .nil
  | _, _, _, .no h hb k, hr => .no h hb (k.frame hr)
  | _, _, _, .yes h hb hσ k, hr => .yes h hb (by rw [hr _ (List.mem_cons_self ..), hσ]) (k.frame fun r h => hr r (List.mem_cons_of_mem _ h))
theorem RwL.ok : ∀ {os : List RS} {ds : List AV} {L : List Nat}, RwL σ os ds L → ∀ o ∈ os, rsOk o
  | _, _, _, .nil, o, h => by cases h
  | _, _, _, .no h hb k, o, ho => by
    rcases List.mem_cons.1 ho with rfl | ho
    · exact h
    · exact k.ok o ho
  | _, _, _, .yes h hb hσ k, o, ho => by
    rcases List.mem_cons.1 ho with rfl | ho
    · exact h
    · exact k.ok o ho
theorem rowsIn_rs : ∀ (os : List RS) (σ : Sto) (k : Nat), (∀ o ∈ os, rsOk o) → ∃ ds σ1 k1 L, rowsIn σ k (os.map rsV) = (ds, σ1, k1) ∧ RwL σ1 os ds L ∧ L.Nodup ∧ (∀ r ∈ L, k ≤ r ∧ r < k1) ∧ k ≤ k1 ∧ k1 ≤ k + os.length ∧ ∀ j, (j < k ∨ k1 ≤ j) → σ1 j = σ j
  | [], σ, k, _ => ⟨[], σ, k, [], rfl, .nil, List.nodup_nil, fun r h => absurd h List.not_mem_nil, Nat.le_refl _, Nat.le_refl _, fun _ _ => rfl⟩
  | o :: os, σ, k, hok => by
    have ho := hok o (List.mem_cons_self ..)
    have hos : ∀ o ∈ os, rsOk o := fun o h => hok o (List.mem_cons_of_mem _ h)
    cases hb : o.b
    · obtain ⟨ds, σ1, k1, L, h1, h2, h3, h4, h5, h6, h7⟩ := rowsIn_rs os σ k hos
      refine ⟨.s true 0 [] :: ds, σ1, k1, L, ?_, .no ho hb h2, h3, h4, h5, by simp only [List.length_cons]; omega, h7⟩
      have : rsV o = .s true 0 [] := by simp [rsV, hb]
      rw [List.map_cons, this]
      simp only [rowsIn, h1]
    · obtain ⟨ds, σ1, k1, L, h1, h2, h3, h4, h5, h6, h7⟩ := rowsIn_rs os (upd σ k (some (.row o.E o.sz o.n o.cs))) (k + 1) hos
      refine ⟨.w k 0 o.n :: ds, σ1, k1, k :: L, ?_, .yes ho hb (by rw [h7 k (.inl (by omega))]; simp [upd]) h2, ?_, ?_, by omega, by simp only [List.length_cons]; omega, ?_⟩
      · have : rsV o = .o o.E o.sz o.n o.cs := by simp [rsV, hb]
        rw [List.map_cons, this]
        simp only [rowsIn, h1]
      · exact List.nodup_cons.2 ⟨fun h => by have := (h4 k h).1; omega, h3⟩
      · intro r hr
        rcases List.mem_cons.1 hr with rfl | hr
        · omega
        · have := h4 r hr; omega
      · intro j hj
        rw [h7 j (by omega), upd, if_neg (by omega)]
/-- A call that is lent an object with rows. -/
theorem call_ob_rows {f : FuncId} {id T : Nat} {ds ps xs : List AV} {L : List Nat} {os' : List RS} {x : AV} {T' : Nat} (hp : pf f = 2) (hσ : σ id = some (.ob T ds)) (hl : deepC (leafP σ) ds = some (ps, L)) (hn : (id :: L).Nodup) (hx : xs.all goes = true) (hid : id < key)
    (hr : C f (lent T ps :: xs) = some (.t [x, .t (lent T' (os'.map rsV) :: xs)])) (hok : ∀ o ∈ os', rsOk o) (h1 : closed x = true) (h2 : os'.length + room x ≤ 4) :
    ∃ ds' L' σ', callOp C pf σ key f (.r id 0 :: xs) = some (x, σ') ∧ σ' id = some (.ob T' ds') ∧ RwL σ' os' ds' L' ∧ (id :: L').Nodup ∧ (∀ r ∈ L', key ≤ r ∧ r < key + 4) ∧ ∀ j, j ≠ id → j ∉ L → (j < key ∨ key + 4 ≤ j) → σ' j = σ j := by
  obtain ⟨ds', σ1, k1, L', g1, g2, g3, g4, g5, g6, g7⟩ := rowsIn_rs os' (killL σ (id :: L)) key hok
  refine ⟨ds', L', upd σ1 id (some (.ob T' ds')), ?_, by simp [upd], ?_, ?_, fun r hr => ⟨(g4 r hr).1, by have := (g4 r hr).2; omega⟩, ?_⟩
  · rw [call2_eq hp]
    have e1 : needs σ (.r id 0 :: xs) = [] := by
      simp only [needs, needs_goes hx, List.append_nil]
      rfl
    have e2 : deepC (pack1 σ) (.r id 0 :: xs) = some (lent T ps :: xs, id :: L) := by
      simp only [deepC, pack1, hσ, hl, Option.map_some, Option.bind_some, packL_goes hx, List.append_nil]
    rw [e1]
    simp only [frz0, e2, Option.bind_some, lend1]
    rw [if_pos hn, hr]
    simp only [Option.bind_some, lend2, e1, frz0, back, lent, ni, g1, Int.toNat_natCast, back_goes hx]
    rw [if_pos (by omega)]
    cases x
    case t ys =>
      simp only [adopt]
      rw [if_pos (by simpa only [closed] using h1)]
    case o => simp [closed] at h1
    all_goals simp only [adopt, adopt1_closed h1]
  · exact g2.frame fun r hr => by
      have := (g4 r hr).1
      simp only [upd]
      rw [if_neg (by omega)]
  · exact List.nodup_cons.2 ⟨fun h => by have := (g4 id h).1; omega, g3⟩
  · intro j hj hjL hk
    simp only [upd, if_neg hj]
    rw [g7 j (by omega)]
    simp [killL, hj, hjL]
/-- The store behind a call that was lent an object with rows. -/
def aftS (σ : Sto) (key id : Nat) (L : List Nat) (T' : Nat) (os' : List RS) : Sto := upd (rowsIn (killL σ (id :: L)) key (os'.map rsV)).2.1 id (some (.ob T' (rowsIn (killL σ (id :: L)) key (os'.map rsV)).1))
/-- The same as an equation. -/
theorem call_ob_eq {f : FuncId} {id T : Nat} {ds ps xs : List AV} {L : List Nat} {os' : List RS} {x : AV} {T' : Nat} (hp : pf f = 2) (hσ : σ id = some (.ob T ds)) (hl : deepC (leafP σ) ds = some (ps, L)) (hn : (id :: L).Nodup) (hx : xs.all goes = true)
    (hr : C f (lent T ps :: xs) = some (.t [x, .t (lent T' (os'.map rsV) :: xs)])) (hok : ∀ o ∈ os', rsOk o) (h1 : closed x = true) (h2 : os'.length + room x ≤ 4) :
    callOp C pf σ key f (.r id 0 :: xs) = some (x, aftS σ key id L T' os') := by
  obtain ⟨ds', σ1, k1, L', g1, g2, g3, g4, g5, g6, g7⟩ := rowsIn_rs os' (killL σ (id :: L)) key hok
  unfold aftS
  rw [call2_eq hp]
  have e1 : needs σ (.r id 0 :: xs) = [] := by
    simp only [needs, needs_goes hx, List.append_nil]
    rfl
  have e2 : deepC (pack1 σ) (.r id 0 :: xs) = some (lent T ps :: xs, id :: L) := by
    simp only [deepC, pack1, hσ, hl, Option.map_some, Option.bind_some, packL_goes hx, List.append_nil]
  rw [e1]
  simp only [frz0, e2, Option.bind_some, lend1]
  rw [if_pos hn, hr]
  simp only [Option.bind_some, lend2, e1, frz0, back, lent, ni, g1, Int.toNat_natCast, back_goes hx]
  rw [if_pos (by omega)]
  cases x
  case t ys =>
    simp only [adopt]
    rw [if_pos (by simpa only [closed] using h1)]
  case o => simp [closed] at h1
  all_goals simp only [adopt, adopt1_closed h1]
theorem aft_facts {id T' : Nat} {L : List Nat} {os' : List RS} (hok : ∀ o ∈ os', rsOk o) (hid : id < key) :
    ∃ ds' L', aftS σ key id L T' os' id = some (.ob T' ds') ∧ RwL (aftS σ key id L T' os') os' ds' L' ∧ (id :: L').Nodup ∧ (∀ r ∈ L', key ≤ r ∧ r < key + os'.length) ∧ ∀ j, j ≠ id → j ∉ L → (j < key ∨ key + os'.length ≤ j) → aftS σ key id L T' os' j = σ j := by
  obtain ⟨ds', σ1, k1, L', g1, g2, g3, g4, g5, g6, g7⟩ := rowsIn_rs os' (killL σ (id :: L)) key hok
  have e : aftS σ key id L T' os' = upd σ1 id (some (.ob T' ds')) := by unfold aftS; rw [g1]
  rw [e]
  refine ⟨ds', L', by simp [upd], ?_, ?_, fun r hr => ⟨(g4 r hr).1, by have := (g4 r hr).2; omega⟩, ?_⟩
  · exact g2.frame fun r hr => by
      have := (g4 r hr).1
      simp only [upd]
      rw [if_neg (by omega)]
  · exact List.nodup_cons.2 ⟨fun h => by have := (g4 id h).1; omega, g3⟩
  · intro j hj hjL hk
    simp only [upd, if_neg hj]
    rw [g7 j (by omega)]
    simp [killL, hj, hjL]
theorem aft_of {τ : Sto} {id T' : Nat} {L : List Nat} {os' : List RS} (hτ : aftS σ key id L T' os' = τ) (hok : ∀ o ∈ os', rsOk o) (hid : id < key) :
    ∃ ds' L', τ id = some (.ob T' ds') ∧ RwL τ os' ds' L' ∧ (id :: L').Nodup ∧ (∀ r ∈ L', key ≤ r ∧ r < key + os'.length) ∧ ∀ j, j ≠ id → j ∉ L → (j < key ∨ key + os'.length ≤ j) → τ j = σ j := by
  subst hτ
  exact aft_facts hok hid
/-- A function that is lent an object with rows. -/
theorem evM_rows {fn : Func} {c : Code} {T : Nat} {os : List RS} {xs : List AV} (hN : xs.length + 1 ≤ fn.ntmps) (hok : ∀ o ∈ os, rsOk o) (hx : xs.all goes = true) :
    ∃ ds σ k L, RwL σ os ds L ∧ (0 :: L).Nodup ∧ σ 0 = some (.ob T ds) ∧ (∀ r ∈ L, 1 ≤ r ∧ r < k) ∧ 1 ≤ k ∧ k ≤ 1 + os.length ∧ evM I C pf m fn c (lent T (os.map rsV) :: xs) = (evC I C pf m c ⟨fun t => (.r 0 0 :: xs).getD t (.v undef), σ, k⟩).bind (outK I fn.results.toList (.r 0 0 :: xs)) := by
  obtain ⟨ds, σ1, k1, L, g1, g2, g3, g4, g5, g6, g7⟩ := rowsIn_rs os (fun _ => none) 1 hok
  refine ⟨ds, upd σ1 0 (some (.ob T ds)), k1, L, g2.frame fun r hr => ?_, List.nodup_cons.2 ⟨fun h => by have := (g4 0 h).1; omega, g3⟩, by simp [upd], g4, g5, g6, ?_⟩
  · have := (g4 r hr).1
    simp only [upd]
    rw [if_neg (by omega)]
  unfold evM
  simp only [lent, ni, inits, g1, inits_goes hx, Int.toNat_natCast]
  rw [if_pos ⟨by simpa using hN, by simp⟩]
  congr 1
  funext ⟨x, s⟩
  cases x <;> rfl
theorem packO_rows {T : Nat} {ds xs : List AV} {ps : List AV} {L : List Nat} (hσ : σ 0 = some (.ob T ds)) (hl : deepC (leafP σ) ds = some (ps, L)) (hx : xs.all goes = true) : deepC (packO σ) (.r 0 0 :: xs) = some (lent T ps :: xs, 0 :: L) := by
  simp only [deepC, packO, hσ, pack1, hl, Option.map_some, Option.bind_some, packOL_goes hx, List.append_nil]
theorem out_rows_one {rs : List ResultVar} {xs : List AV} {s : St} {x : AV} {T : Nat} {ds : List AV} {ps : List AV} {L : List Nat} (h1 : evRes I s rs = some [x]) (h2 : goes x = true) (hσ : s.σ 0 = some (.ob T ds)) (hl : deepC (leafP s.σ) ds = some (ps, L)) (hn : (0 :: L).Nodup) (hx : xs.all goes = true) :
    outK I rs (.r 0 0 :: xs) (.ret, s) = some (.t [x, .t (lent T ps :: xs)]) := by
  have h3 : giveL s.σ [x] = some ([x], [], []) := giveL_closed (by simp only [closedL, goes_closed h2, Bool.and_self])
  simp only [outK, h1, Option.bind_some, h3, packO_rows hσ hl hx]
  rw [if_pos ⟨by simpa using hn, by simp⟩]
  cases x
  case t => simp [goes] at h2
  all_goals rfl
theorem out_rows_none {rs : List ResultVar} {xs : List AV} {s : St} {x : Ex} {T : Nat} {ds : List AV} {ps : List AV} {L : List Nat} (hx0 : ∀ i, x ≠ .exit i) (h1 : evRes I s rs = some []) (hσ : s.σ 0 = some (.ob T ds)) (hl : deepC (leafP s.σ) ds = some (ps, L)) (hn : (0 :: L).Nodup) (hx : xs.all goes = true) :
    outK I rs (.r 0 0 :: xs) (x, s) = some (.t [.t [], .t (lent T ps :: xs)]) := by
  cases x
  case exit i => exact absurd rfl (hx0 i)
  all_goals
    simp only [outK, h1, Option.bind_some, giveL, packO_rows hσ hl hx]
    rw [if_pos ⟨by simpa using hn, by simp⟩]
theorem out_rows_two {rs : List ResultVar} {xs : List AV} {s : St} {x y : AV} {zs : List AV} {T : Nat} {ds : List AV} {ps : List AV} {L : List Nat} (h1 : evRes I s rs = some (x :: y :: zs)) (h2 : closedL (x :: y :: zs) = true) (hσ : s.σ 0 = some (.ob T ds)) (hl : deepC (leafP s.σ) ds = some (ps, L)) (hn : (0 :: L).Nodup) (hx : xs.all goes = true) :
    outK I rs (.r 0 0 :: xs) (.ret, s) = some (.t [.t (x :: y :: zs), .t (lent T ps :: xs)]) := by
  simp only [outK, h1, Option.bind_some, giveL_closed h2, packO_rows hσ hl hx]
  rw [if_pos ⟨by simpa using hn, by simp⟩]
/-- A row of which the first n elements are left. -/
theorem leafP_part {r E sz n n' : Nat} {cs : List AV} (hσ : σ r = some (.row E sz n' cs)) (hc : closedL cs = true) (hn : n ≤ n') : leafP σ (.w r 0 n) = some (.o E sz n (tk n n' sz cs), [r]) := by
  simp only [leafP, hσ, hn, if_true]
  rw [deepL_closed 8 hc]
  simp
theorem leaf3 {da db dc pa pb pc : AV} {La Lb Lc : List Nat} (ha : leafP σ da = some (pa, La)) (hb : leafP σ db = some (pb, Lb)) (hc : leafP σ dc = some (pc, Lc)) : deepC (leafP σ) [da, db, dc] = some ([pa, pb, pc], La ++ (Lb ++ Lc)) := by
  simp only [deepC, ha, hb, hc, Option.bind_some, Option.map_some, List.append_nil]
end
theorem EE_rows {f : FuncId} {fn : Func} {T : Nat} {os : List RS} {xs : List AV} {r : AV} (hT : TT f = some (fn, bodyOf fn)) (hp : pf f = 2) (hN : xs.length + 1 ≤ fn.ntmps) (hok : ∀ o ∈ os, rsOk o) (hx : xs.all goes = true)
    (h : ∀ ds σ k L, RwL σ os ds L → (0 :: L).Nodup → σ 0 = some (.ob T ds) → (∀ r ∈ L, 1 ≤ r ∧ r < k) → 1 ≤ k → k ≤ 1 + os.length →
      (evC II EE (withOpt (opt f) pf) MX (strip (bodyOf fn)) ⟨fun t => (.r 0 0 :: xs).getD t (.v undef), σ, k⟩).bind (outK II fn.results.toList (.r 0 0 :: xs)) = some r) : EE f (lent T (os.map rsV) :: xs) = some r := by
  obtain ⟨ds, σ, k, L, h1, h2, h3, h4, h4', h5, h6⟩ := evM_rows (I := II) (C := EE) (pf := withOpt (opt f) pf) (m := MX) (fn := fn) (c := bodyOf fn) (T := T) (os := os) (xs := xs) hN hok hx
  refine EE_lent hT hp ?_
  rw [h6, ← evC_strip]
  exact h ds σ k L h1 h2 h3 h4 h4' h5
/-- One cell that is a row. -/
def Rw (σ : Sto) (o : RS) (d : AV) (L : List Nat) : Prop := rsOk o ∧ ((o.b = false ∧ d = .s true 0 [] ∧ L = []) ∨ ∃ r, o.b = true ∧ d = .w r 0 o.n ∧ L = [r] ∧ σ r = some (.row o.E o.sz o.n o.cs))
theorem RwL.inv {σ : Sto} {o : RS} {os : List RS} {ds : List AV} {L : List Nat} (h : RwL σ (o :: os) ds L) : ∃ d ds' L1 L2, ds = d :: ds' ∧ L = L1 ++ L2 ∧ Rw σ o d L1 ∧ RwL σ os ds' L2 := by
  cases h with
  | no h hb k => exact ⟨_, _, [], _, rfl, rfl, ⟨h, .inl ⟨hb, rfl, rfl⟩⟩, k⟩
  | yes h hb hσ k => exact ⟨_, _, [_], _, rfl, rfl, ⟨h, .inr ⟨_, hb, rfl, rfl, hσ⟩⟩, k⟩
theorem RwL.inv0 {σ : Sto} {ds : List AV} {L : List Nat} (h : RwL σ [] ds L) : ds = [] ∧ L = [] := by cases h; exact ⟨rfl, rfl⟩
theorem RwL.mk {σ : Sto} {o : RS} {os : List RS} {d : AV} {ds : List AV} {L1 L2 : List Nat} (h : Rw σ o d L1) (k : RwL σ os ds L2) : RwL σ (o :: os) (d :: ds) (L1 ++ L2) := by
  obtain ⟨h0, ⟨hb, rfl, rfl⟩ | ⟨r, hb, rfl, rfl, hσ⟩⟩ := h
  · exact .no h0 hb k
  · exact .yes h0 hb hσ k
theorem rw3 {σ : Sto} {a b c : RS} {ds : List AV} {L : List Nat} (h : RwL σ [a, b, c] ds L) : ∃ da db dc La Lb Lc, ds = [da, db, dc] ∧ L = La ++ (Lb ++ Lc) ∧ Rw σ a da La ∧ Rw σ b db Lb ∧ Rw σ c dc Lc := by
  obtain ⟨da, ds1, La, L1, rfl, rfl, ha, h⟩ := h.inv
  obtain ⟨db, ds2, Lb, L2, rfl, rfl, hb, h⟩ := h.inv
  obtain ⟨dc, ds3, Lc, L3, rfl, rfl, hc, h⟩ := h.inv
  obtain ⟨rfl, rfl⟩ := h.inv0
  exact ⟨da, db, dc, La, Lb, Lc, rfl, by simp, ha, hb, hc⟩
theorem rw3_mk {σ : Sto} {a b c : RS} {da db dc : AV} {La Lb Lc : List Nat} (ha : Rw σ a da La) (hb : Rw σ b db Lb) (hc : Rw σ c dc Lc) : RwL σ [a, b, c] [da, db, dc] (La ++ (Lb ++ Lc)) := by
  have := RwL.mk ha (RwL.mk hb (RwL.mk hc .nil))
  simpa using this
theorem Rw.frame {σ σ' : Sto} {o : RS} {d : AV} {L : List Nat} (h : Rw σ o d L) (hr : ∀ r ∈ L, σ' r = σ r) : Rw σ' o d L := by
  obtain ⟨h0, h | ⟨r, hb, rfl, rfl, hσ⟩⟩ := h
  · exact ⟨h0, .inl h⟩
  · exact ⟨h0, .inr ⟨r, hb, rfl, rfl, by rw [hr r (by simp), hσ]⟩⟩
theorem len_rw {σ : Sto} {o : RS} {d : AV} {L : List Nat} (h : Rw σ o d L) {t : Nat} {a b : Nat} {c : List Value} : lenK σ d (some ⟨.sl t, a, b, c⟩) = some (N o.n, σ) := by
  obtain ⟨h0, ⟨hb, rfl, rfl⟩ | ⟨r, hb, rfl, rfl, hσ⟩⟩ := h
  · rw [(h0.2.2 hb).1]
    rfl
  · rfl
/-- A row that holds something is there. -/
theorem Rw.pos {σ : Sto} {o : RS} {d : AV} {L : List Nat} (h : Rw σ o d L) (hn : o.n ≠ 0) : ∃ r, o.b = true ∧ d = .w r 0 o.n ∧ L = [r] ∧ σ r = some (.row o.E o.sz o.n o.cs) := by
  obtain ⟨h0, ⟨hb, rfl, rfl⟩ | h⟩ := h
  · exact absurd (h0.2.2 hb).1 hn
  · exact h
/-- Rows of an object as slices that grow. -/
theorem Rw.lst {σ : Sto} {o : RS} {d : AV} {L : List Nat} (h : Rw σ o d L) {nx : Nat} (hL : ∀ r ∈ L, r < nx) : Lst σ nx o.E o.sz d o.n o.cs := by
  obtain ⟨h0, ⟨hb, rfl, rfl⟩ | ⟨r, hb, rfl, rfl, hσ⟩⟩ := h
  · exact .inl ⟨rfl, h0.2.2 hb⟩
  · exact .inr ⟨r, hL r (by simp), rfl, hσ, h0.1⟩
theorem Rw.leaf {σ : Sto} {o : RS} {d : AV} {L : List Nat} (h : Rw σ o d L) : leafP σ d = some (rsV o, L) := by
  obtain ⟨h0, ⟨hb, rfl, rfl⟩ | ⟨r, hb, rfl, rfl, hσ⟩⟩ := h
  · rw [leaf_closed rfl]
    simp [rsV, hb]
  · rw [leafP_row hσ h0.2.1]
    simp [rsV, hb]
end
end Go.Proofs.YtkilalabmbdmkaaDoor.Ev

/-
Code: the reference's builder.
-/
namespace Go.Proofs.YtkilalabmbdmkaaDoor.Ev
section
set_option linter.unusedVariables false
set_option linter.unusedSimpArgs false
open Go Go.RowKit
set_option linter.unusedVariables false
set_option linter.unusedSimpArgs false
theorem T_pop : TT 100 = some (Tryd.f100, bodyOf Tryd.f100) := by kernel_rfl
theorem T_do : TT 64 = some (Tryd.f64, bodyOf Tryd.f64) := by kernel_rfl
theorem T_end : TT 101 = some (Tryd.f101, bodyOf Tryd.f101) := by kernel_rfl
theorem T_l7Build : TT 36 = some (Tryd.f36, bodyOf Tryd.f36) := by kernel_rfl
theorem T_push : TT 99 = some (Tryd.f99, bodyOf Tryd.f99) := by kernel_rfl
/-- The reference's builder as it is lent: terms, signs of loops, bases. -/
structure BOk (a b c : RS) : Prop where
  ha : rsOk a
  hb : rsOk b
  hc : rsOk c
  aE : a.E = 33
  aS : a.sz = 3
  bE : b.E = 9
  bS : b.sz = 1
  cE : c.E = 3
  cS : c.sz = 1
  an : a.n < 1000000000
  bn : b.n < 1000000000
  cn : c.n < 1000000000
def zeroN : List AV := [U 0, U 0, .s true 0 []]
/-- The base: the last of the bases, or 0. -/
def IsBase (c : RS) (base : Nat) : Prop := (c.n = 0 ∧ base = 0) ∨ (c.n ≠ 0 ∧ ∃ pre, c.cs = pre ++ [N (base : Int)] ∧ pre.length + 1 = c.n)
theorem pop_none (a b c : RS) (h : BOk a b c) (base : Nat) (hbs : IsBase c base) (hle : a.n ≤ base) (hbl : base < 1000000000) :
    EE 100 [lent 84 [rsV a, rsV b, rsV c]] = some (.t [.t [.a zeroN, B false], .t [lent 84 [rsV a, rsV b, rsV c]]]) := by
  refine EE_rows (os := [a, b, c]) (xs := []) T_pop rfl (by decide) (by
    intro o ho
    simp only [List.mem_cons, List.not_mem_nil, or_false] at ho
    rcases ho with rfl | rfl | rfl
    · exact h.ha
    · exact h.hb
    · exact h.hc) rfl ?_
  intro ds σ k L hR hn hσ hL hk1 hk
  obtain ⟨da, db, dc, La, Lb, Lc, rfl, rfl, ra, rb, rc⟩ := rw3 hR
  rw [show opt 100 = [oLow 6, oHi 33] from rfl]
  simp only [bodyOf, Tryd.f100, SA]
  have hk0 : ¬ (0 = k) := by omega
  have hn' : ∀ r ∈ La ++ (Lb ++ Lc), r ≠ k := fun r hr => by have := (hL r hr).2; omega
  have rc' : ∀ X, Rw (upd σ k X) c dc Lc := fun X => rc.frame fun r hr => upd_ne _ _ _ _ (hn' r (by simp [hr]))
  have ra' : ∀ X, Rw (upd σ k X) a da La := fun X => ra.frame fun r hr => upd_ne _ _ _ _ (hn' r (by simp [hr]))
  simp only [hσ, hk0, len_rw (rc' _), len_rw (ra' _), IA, PA, RA0, RA1, RA2, RA3, RA4, RA5, RA6, RA7, RA8, RA9, RA10, Nat.reduceAdd, Nat.reduceMul, Nat.reduceEqDiff, Nat.reduceLeDiff, Nat.reduceLT, Int.reduceToNat, Int.reduceLT, Int.reduceLE, Int.reduceEq, Int.reduceNeg, Int.reduceAdd, Int.reduceSub, Int.reduceMul, reduceIte]
  have hle' : ((a.n : Int) ≤ (base : Int)) := by omega
  rcases hbs with ⟨hc0, rfl⟩ | ⟨hc0, pre, hcs, hpl⟩
  · have hlt : ¬ ((0 : Int) < (c.n : Int)) := by omega
    have hle0 : ((a.n : Int) ≤ 0) := by omega
    simp only [hlt, hσ, hk0, hle0, len_rw (rc' _), len_rw (ra' _), IA, PA, RA0, RA1, RA2, RA3, RA4, RA5, RA6, RA7, RA8, RA9, RA10, Nat.reduceAdd, Nat.reduceMul, Nat.reduceEqDiff, Nat.reduceLeDiff, Nat.reduceLT, Int.reduceToNat, Int.reduceLT, Int.reduceLE, Int.reduceEq, Int.reduceNeg, Int.reduceAdd, Int.reduceSub, Int.reduceMul, reduceIte]
    refine out_rows_two (ds := [da, db, dc]) (ps := [rsV a, rsV b, rsV c]) (L := La ++ (Lb ++ Lc)) ?_ (by rfl) ?_ ?_ hn (by rfl)
    · simp only [hk0, IA, PA, RA0, RA1, RA2, RA3, RA4, RA5, RA6, RA7, RA8, RA9, RA10, Nat.reduceAdd, Nat.reduceMul, Nat.reduceEqDiff, Nat.reduceLeDiff, Nat.reduceLT, Int.reduceToNat, Int.reduceLT, Int.reduceLE, Int.reduceEq, Int.reduceNeg, Int.reduceAdd, Int.reduceSub, Int.reduceMul, reduceIte]
      rfl
    · simp only [upd, hk0, if_false, hσ]
    · exact leaf3 (ra.frame fun r hr => by simp only [upd, if_neg (hn' r (by simp [hr]))]).leaf (rb.frame fun r hr => by simp only [upd, if_neg (hn' r (by simp [hr]))]).leaf (rc.frame fun r hr => by simp only [upd, if_neg (hn' r (by simp [hr]))]).leaf
  · have hlt : ((0 : Int) < (c.n : Int)) := by omega
    obtain ⟨r, hcb, rfl, rfl, hcσ⟩ := rc.pos hc0
    have hrk : ¬ (r = k) := hn' r (by simp)
    have hw : IntKind.i64.wrap ((c.n : Int) - 1) = ((c.n - 1 : Nat) : Int) := by
      have := h.cn
      rw [wrap64 (by omega) (by omega)]; omega
    have hz1 : (0 : Int) ≤ ((c.n - 1 : Nat) : Int) := by omega
    have hz2 : ((c.n - 1 : Nat) : Int) < (c.n : Int) := by omega
    have hhd : (c.cs.drop (c.n - 1)).head? = some (N base) := by
      rw [hcs, List.drop_append, List.drop_eq_nil_of_le (by omega), show c.n - 1 - pre.length = 0 by omega]
      rfl
    simp only [hlt, hσ, hk0, hrk, hcσ, hw, hz1, hz2, hhd, hle', h.cS, Int.toNat_natCast, Nat.mul_one, Nat.zero_add, len_rw (ra' _), IA, PA, RA0, RA1, RA2, RA3, RA4, RA5, RA6, RA7, RA8, RA9, RA10, Nat.reduceAdd, Nat.reduceMul, Nat.reduceEqDiff, Nat.reduceLeDiff, Nat.reduceLT, Int.reduceToNat, Int.reduceLT, Int.reduceLE, Int.reduceEq, Int.reduceNeg, Int.reduceAdd, Int.reduceSub, Int.reduceMul, reduceIte]
    refine out_rows_two (ds := [da, db, .w r 0 c.n]) (ps := [rsV a, rsV b, rsV c]) (L := La ++ (Lb ++ [r])) ?_ (by rfl) ?_ ?_ hn (by rfl)
    · simp only [hk0, IA, PA, RA0, RA1, RA2, RA3, RA4, RA5, RA6, RA7, RA8, RA9, RA10, Nat.reduceAdd, Nat.reduceMul, Nat.reduceEqDiff, Nat.reduceLeDiff, Nat.reduceLT, Int.reduceToNat, Int.reduceLT, Int.reduceLE, Int.reduceEq, Int.reduceNeg, Int.reduceAdd, Int.reduceSub, Int.reduceMul, reduceIte]
      rfl
    · simp only [upd, hk0, if_false, hσ]
    · exact leaf3 (ra.frame fun r' hr => by simp only [upd, if_neg (hn' r' (by simp [hr]))]).leaf (rb.frame fun r' hr => by simp only [upd, if_neg (hn' r' (by simp [hr]))]).leaf (rc.frame fun r' hr => by simp only [upd, if_neg (hn' r' (by simp [hr]))]).leaf
theorem pop_some (a b c : RS) (h : BOk a b c) (base : Nat) (hbs : IsBase c base) (hle : base < a.n) (pa : List AV) (cell : List AV) (hcs : a.cs = pa ++ cell) (hcl : cell.length = 3) (hlf : cell.all leafOk = true) (hpa : pa.length + 3 = a.n * 3) :
    EE 100 [lent 84 [rsV a, rsV b, rsV c]] = some (.t [.t [.a cell, B true], .t [lent 84 [rsV { a with n := a.n - 1, cs := pa }, rsV b, rsV c]]]) := by
  refine EE_rows (os := [a, b, c]) (xs := []) T_pop rfl (by decide) (by
    intro o ho
    simp only [List.mem_cons, List.not_mem_nil, or_false] at ho
    rcases ho with rfl | rfl | rfl
    · exact h.ha
    · exact h.hb
    · exact h.hc) rfl ?_
  intro ds σ k L hR hn hσ hL hk1 hk
  obtain ⟨da, db, dc, La, Lb, Lc, rfl, rfl, ra, rb, rc⟩ := rw3 hR
  have ha0 : a.n ≠ 0 := by omega
  obtain ⟨ri, hab, rfl, rfl, haσ⟩ := ra.pos ha0
  rw [show opt 100 = [oLow 6, oHi 33] from rfl]
  simp only [bodyOf, Tryd.f100, SA]
  have hk0 : ¬ (0 = k) := by omega
  have h0k : 0 < k := by omega
  have hn' : ∀ r ∈ [ri] ++ (Lb ++ Lc), r ≠ k := fun r hr => by have := (hL r hr).2; omega
  have hrik : ¬ (ri = k) := hn' ri (by simp)
  have hri0 : ¬ (ri = 0) := by have := (hL ri (by simp)).1; omega
  have hrilt : ri < k := (hL ri (by simp)).2
  have rc' : ∀ X, Rw (upd σ k X) c dc Lc := fun X => rc.frame fun r hr => upd_ne _ _ _ _ (hn' r (by simp [hr]))
  have hle' : ¬ ((a.n : Int) ≤ (base : Int)) := by omega
  have hwa : IntKind.i64.wrap ((a.n : Int) - 1) = ((a.n - 1 : Nat) : Int) := by
    have := h.an
    rw [wrap64 (by omega) (by omega)]; omega
  have ha1 : (0 : Int) ≤ ((a.n - 1 : Nat) : Int) := by omega
  have ha2 : ((a.n - 1 : Nat) : Int) < (a.n : Int) := by omega
  have ha3 : ((a.n - 1 : Nat) : Int) ≤ (a.n : Int) := by omega
  have hdr : a.cs.drop ((a.n - 1) * 3) = cell := by
    rw [hcs, List.drop_append, List.drop_eq_nil_of_le (by omega), show (a.n - 1) * 3 - pa.length = 0 by omega]
    rfl
  rcases hbs with ⟨hc0, rfl⟩ | ⟨hc0, pre, hcs', hpl⟩
  · have hlt : ¬ ((0 : Int) < (c.n : Int)) := by omega
    have hle0 : ¬ ((a.n : Int) ≤ 0) := by omega
    simp only [hlt, hσ, hk0, h0k, hrik, hrilt, haσ, hle0, hwa, ha1, ha2, ha3, hdr, h.aS, Int.toNat_natCast, Nat.zero_add, len_rw (rc' _), IA, PA, RA0, RA1, RA2, RA3, RA4, RA5, RA6, RA7, RA8, RA9, RA10, Nat.reduceAdd, Nat.reduceMul, Nat.reduceEqDiff, Nat.reduceLeDiff, Nat.reduceLT, Int.reduceToNat, Int.reduceLT, Int.reduceLE, Int.reduceEq, Int.reduceNeg, Int.reduceAdd, Int.reduceSub, Int.reduceMul, reduceIte]
    have hct : List.take 3 cell = cell := List.take_of_length_le (by omega)
    rw [if_pos (by omega), if_pos (by omega), if_pos (by omega), if_pos (by omega), if_pos (by simp), hct, if_pos ⟨hcl, hlf⟩, if_pos (by omega)]
    have hk0' : ¬ (k = 0) := by omega
    have hk48 : ¬ (k = k + 8 + 4 + 24 + 28 + 48) := by omega
    have hz48 : ¬ (0 = k + 8 + 4 + 24 + 28 + 48) := by omega
    have hr48 : ¬ (ri = k + 8 + 4 + 24 + 28 + 48) := by omega
    simp only [hk0', hk48, hcl, hct, hlf, hσ, hk0, h0k, hrik, hrilt, haσ, hwa, ha1, ha2, ha3, hdr, h.aS, cut_w_hi, Int.toNat_natCast, Nat.zero_add, RR, IA, PA, RA0, RA1, RA2, RA3, RA4, RA5, RA6, RA7, RA8, RA9, RA10, Nat.reduceAdd, Nat.reduceMul, Nat.reduceEqDiff, Nat.reduceLeDiff, Nat.reduceLT, Int.reduceToNat, Int.reduceLT, Int.reduceLE, Int.reduceEq, Int.reduceNeg, Int.reduceAdd, Int.reduceSub, Int.reduceMul, reduceIte]
    have hcc : closedL cell = true := by
      have := h.ha.2.1
      rw [hcs, closedL_append] at this
      exact (Bool.and_eq_true_iff.1 this).2
    refine out_rows_two (x := .a cell) (y := B true) (zs := []) (xs := []) (ds := [.w ri 0 (a.n - 1), db, dc]) (ps := [rsV ⟨a.b, a.E, 3, a.n - 1, pa⟩, rsV b, rsV c]) (L := [ri] ++ (Lb ++ Lc)) ?_ (by
      simp only [closedL, closed, hcc, Bool.and_self]) ?_ ?_ hn (by rfl)
    · simp only [hk0, hct, hcl, IA, PA, RA0, RA1, RA2, RA3, RA4, RA5, RA6, RA7, RA8, RA9, RA10, Nat.reduceAdd, Nat.reduceMul, Nat.reduceEqDiff, Nat.reduceLeDiff, Nat.reduceLT, Int.reduceToNat, Int.reduceLT, Int.reduceLE, Int.reduceEq, Int.reduceNeg, Int.reduceAdd, Int.reduceSub, Int.reduceMul, reduceIte]
    · simp only [upd, hk0, if_false, if_true]
    · have hfr : ∀ r ∈ [ri] ++ (Lb ++ Lc), ¬ (r = k) ∧ ¬ (r = 0) ∧ ¬ (r = k + 8 + 4 + 24 + 28 + 48) := fun r hr => by
        have := hL r hr
        omega
      have htk : tk (a.n - 1) a.n a.sz a.cs = pa := by
        unfold tk
        rw [if_neg (by omega), h.aS, hcs, List.take_append_of_le_length (by omega), List.take_of_length_le (by omega)]
      refine leaf3 ?_ (rb.frame fun r hr => ?_).leaf (rc.frame fun r hr => ?_).leaf
      · rw [leafP_part (n' := a.n) (cs := a.cs) (E := a.E) (sz := a.sz) (by
          obtain ⟨q1, q2, q3⟩ := hfr ri (by simp)
          simp only [upd, if_neg q1, if_neg q2, if_neg q3, haσ]) h.ha.2.1 (by omega), htk, h.aS]
        simp only [rsV, hab, if_true]
      · obtain ⟨q1, q2, q3⟩ := hfr r (by simp [hr])
        simp only [upd, if_neg q1, if_neg q2, if_neg q3]
      · obtain ⟨q1, q2, q3⟩ := hfr r (by simp [hr])
        simp only [upd, if_neg q1, if_neg q2, if_neg q3]
  · have hlt : ((0 : Int) < (c.n : Int)) := by omega
    obtain ⟨rr, hcb, rfl, rfl, hcσ⟩ := rc.pos hc0
    have hrk : ¬ (rr = k) := hn' rr (by simp)
    have hwc : IntKind.i64.wrap ((c.n : Int) - 1) = ((c.n - 1 : Nat) : Int) := by
      have := h.cn
      rw [wrap64 (by omega) (by omega)]; omega
    have hz1 : (0 : Int) ≤ ((c.n - 1 : Nat) : Int) := by omega
    have hz2 : ((c.n - 1 : Nat) : Int) < (c.n : Int) := by omega
    have hhd : (c.cs.drop (c.n - 1)).head? = some (N base) := by
      rw [hcs', List.drop_append, List.drop_eq_nil_of_le (by omega), show c.n - 1 - pre.length = 0 by omega]
      rfl
    simp only [hlt, hσ, hk0, h0k, hrik, hrilt, haσ, hrk, hcσ, hwc, hz1, hz2, hhd, hle', h.cS, Nat.mul_one, hwa, ha1, ha2, ha3, hdr, h.aS, Int.toNat_natCast, Nat.zero_add, IA, PA, RA0, RA1, RA2, RA3, RA4, RA5, RA6, RA7, RA8, RA9, RA10, Nat.reduceAdd, Nat.reduceMul, Nat.reduceEqDiff, Nat.reduceLeDiff, Nat.reduceLT, Int.reduceToNat, Int.reduceLT, Int.reduceLE, Int.reduceEq, Int.reduceNeg, Int.reduceAdd, Int.reduceSub, Int.reduceMul, reduceIte]
    have hct : List.take 3 cell = cell := List.take_of_length_le (by omega)
    rw [if_pos (by omega), if_pos (by omega), if_pos (by omega), if_pos (by omega), if_pos (by simp), hct, if_pos ⟨hcl, hlf⟩, if_pos (by omega)]
    have hk0' : ¬ (k = 0) := by omega
    have hk48 : ¬ (k = k + 8 + 4 + 24 + 52 + 28 + 48) := by omega
    have hz48 : ¬ (0 = k + 8 + 4 + 24 + 52 + 28 + 48) := by omega
    have hr48 : ¬ (ri = k + 8 + 4 + 24 + 52 + 28 + 48) := by omega
    simp only [hk0', hk48, hcl, hct, hlf, hσ, hk0, h0k, hrik, hrilt, haσ, hwa, ha1, ha2, ha3, hdr, h.aS, cut_w_hi, Int.toNat_natCast, Nat.zero_add, RR, IA, PA, RA0, RA1, RA2, RA3, RA4, RA5, RA6, RA7, RA8, RA9, RA10, Nat.reduceAdd, Nat.reduceMul, Nat.reduceEqDiff, Nat.reduceLeDiff, Nat.reduceLT, Int.reduceToNat, Int.reduceLT, Int.reduceLE, Int.reduceEq, Int.reduceNeg, Int.reduceAdd, Int.reduceSub, Int.reduceMul, reduceIte]
    have hcc : closedL cell = true := by
      have := h.ha.2.1
      rw [hcs, closedL_append] at this
      exact (Bool.and_eq_true_iff.1 this).2
    refine out_rows_two (x := .a cell) (y := B true) (zs := []) (xs := []) (ds := [.w ri 0 (a.n - 1), db, .w rr 0 c.n]) (ps := [rsV ⟨a.b, a.E, 3, a.n - 1, pa⟩, rsV b, rsV c]) (L := [ri] ++ (Lb ++ [rr])) ?_ (by
      simp only [closedL, closed, hcc, Bool.and_self]) ?_ ?_ hn (by rfl)
    · simp only [hk0, hct, hcl, IA, PA, RA0, RA1, RA2, RA3, RA4, RA5, RA6, RA7, RA8, RA9, RA10, Nat.reduceAdd, Nat.reduceMul, Nat.reduceEqDiff, Nat.reduceLeDiff, Nat.reduceLT, Int.reduceToNat, Int.reduceLT, Int.reduceLE, Int.reduceEq, Int.reduceNeg, Int.reduceAdd, Int.reduceSub, Int.reduceMul, reduceIte]
    · simp only [upd, hk0, if_false, if_true]
    · have hfr : ∀ r ∈ [ri] ++ (Lb ++ [rr]), ¬ (r = k) ∧ ¬ (r = 0) ∧ ¬ (r = k + 8 + 4 + 24 + 52 + 28 + 48) := fun r hr => by
        have := hL r hr
        omega
      have htk : tk (a.n - 1) a.n a.sz a.cs = pa := by
        unfold tk
        rw [if_neg (by omega), h.aS, hcs, List.take_append_of_le_length (by omega), List.take_of_length_le (by omega)]
      refine leaf3 ?_ (rb.frame fun r hr => ?_).leaf (rc.frame fun r hr => ?_).leaf
      · rw [leafP_part (n' := a.n) (cs := a.cs) (E := a.E) (sz := a.sz) (by
          obtain ⟨q1, q2, q3⟩ := hfr ri (by simp)
          simp only [upd, if_neg q1, if_neg q2, if_neg q3, haσ]) h.ha.2.1 (by omega), htk, h.aS]
        simp only [rsV, hab, if_true]
      · obtain ⟨q1, q2, q3⟩ := hfr r (List.mem_append_right _ (List.mem_append_left _ hr))
        simp only [upd, if_neg q1, if_neg q2, if_neg q3]
      · obtain ⟨q1, q2, q3⟩ := hfr r (List.mem_append_right _ (List.mem_append_right _ hr))
        simp only [upd, if_neg q1, if_neg q2, if_neg q3]
end
end Go.Proofs.YtkilalabmbdmkaaDoor.Ev
