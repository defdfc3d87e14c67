/-
Texts Ta to Tm of the work.
-/
import Derived.Test.YtegbkihgnofkfaaGreatDoorZE4
/-
Small functions by the engine.
-/
namespace Go.Proofs.YtegbkihgnofkfaaGreatDoor.Ev
section
set_option linter.unusedVariables false
set_option linter.unusedSimpArgs false
open Go Go.RowKit
set_option linter.unusedVariables false
set_option linter.unusedSimpArgs false

theorem T_l1In : TT 18 = some (Tryz.f18, bodyOf Tryz.f18) := by kernel_rfl
theorem l1In_ev (x a b : Int) : EE 18 [N x, N a, N b] = some (B (decide (a ≤ x ∧ x ≤ b))) := by
  refine EE_plain T_l1In (by decide) (Nat.le_of_ble_eq_true rfl) (by rfl) ?_
  rw [show opt 18 = [] from rfl]
  simp only [bodyOf, Tryz.f18, SA]
  by_cases h1 : a ≤ x
  · simp only [h1, ge_iff_le, IA, PA, RA0, RA1, RA2, RA3, RA4, RA5, RA6, RA7, RA8, RA9, RA10, Nat.reduceAdd, Nat.reduceMul, Nat.reduceEqDiff, Nat.reduceLeDiff, Nat.reduceLT, Int.reduceToNat, Int.reduceLT, Int.reduceLE, Int.reduceEq, Int.reduceNeg, Int.reduceAdd, Int.reduceSub, Int.reduceMul, reduceIte]
  · simp only [h1, ge_iff_le, false_and, IA, PA, RA0, RA1, RA2, RA3, RA4, RA5, RA6, RA7, RA8, RA9, RA10, Nat.reduceAdd, Nat.reduceMul, Nat.reduceEqDiff, Nat.reduceLeDiff, Nat.reduceLT, Int.reduceToNat, Int.reduceLT, Int.reduceLE, Int.reduceEq, Int.reduceNeg, Int.reduceAdd, Int.reduceSub, Int.reduceMul, reduceIte]

/-- Where a byte is first found from place i on, -1 if nowhere. -/
def findFrom (c : UInt8) (i : Nat) : List UInt8 → Int
  | [] => -1
  | x :: l => if x = c then (i : Int) else findFrom c (i + 1) l
theorem T_l13Find : TT 29 = some (Tryz.f29, bodyOf Tryz.f29) := by kernel_rfl
theorem l13Find_loop (l : List UInt8) (c : UInt8) (hl : l.length < 4611686018427387904) : ∀ (r : List UInt8) (i n : Nat) (e : Nat → AV) (σ : Sto) (nx : Nat) (q : Option (Ex × St)),
    l.drop i = r → i ≤ l.length → r.length < n → roundsE (evC II EE (withOpt [] pf) MX (bodyL Tryz.f29 0)) n ⟨e, σ, nx⟩ = q → e 0 = S l → e 1 = U c → e 5 = N i →
    ∃ e' nx', (findFrom c i r = -1 ∧ q = some (.exit 0, ⟨e', σ, nx'⟩)) ∨ (q = some (.ret, ⟨e', σ, nx'⟩) ∧ e' 4 = N (findFrom c i r)) := by
  intro r
  induction r with
  | nil =>
    intro i n e σ nx q hd hi hn hq h0 h1 h5
    have hlen : l.length ≤ i := by simpa using hd
    obtain ⟨k, rfl⟩ : ∃ k, n = k + 1 := ⟨n - 1, by omega⟩
    rw [rounds_rd] at hq
    have hc : ¬ ((i : Int) < (l.length : Int)) := by omega
    simp only [bodyL, bodyOf, Tryz.f29, SA, loops, List.nil_append, List.append_nil, List.cons_append, List.getD_cons_zero, List.getD_cons_succ] at hq
    simp only [h0, h1, h5, hc, size_mk, IA, PA, RA0, RA1, RA2, RA3, RA4, RA5, RA6, RA7, RA8, RA9, RA10, Nat.reduceAdd, Nat.reduceMul, Nat.reduceEqDiff, Nat.reduceLeDiff, Nat.reduceLT, Int.reduceToNat, Int.reduceLT, Int.reduceLE, Int.reduceEq, Int.reduceNeg, Int.reduceAdd, Int.reduceSub, Int.reduceMul, reduceIte] at hq
    exact ⟨_, _, .inl ⟨rfl, hq.symm⟩⟩
  | cons x r ih =>
    intro i n e σ nx q hd hi hn hq h0 h1 h5
    have hlen : i < l.length := by
      rcases Nat.lt_or_ge i l.length with h | h
      · exact h
      · rw [List.drop_eq_nil_of_le h] at hd
        cases hd
    have hx : l[i]? = some x := by
      have : (l.drop i)[0]? = some x := by rw [hd]; rfl
      simpa using this
    have hd' : l.drop (i + 1) = r := by
      have : (l.drop i).drop 1 = r := by rw [hd]; rfl
      simpa [List.drop_drop] using this
    obtain ⟨k, rfl⟩ : ∃ k, n = k + 1 := ⟨n - 1, by omega⟩
    rw [rounds_rd] at hq
    have hc : ((i : Int) < (l.length : Int)) := by omega
    have hz : (0 : Int) ≤ (i : Int) := by omega
    have hw : IntKind.i64.wrap ((i : Int) + 1) = ((i + 1 : Nat) : Int) := by rw [wrap64 (by omega) (by omega)]; rfl
    simp only [bodyL, bodyOf, Tryz.f29, SA, loops, List.nil_append, List.append_nil, List.cons_append, List.getD_cons_zero, List.getD_cons_succ] at hq
    by_cases he : x = c
    · subst he
      simp only [h0, h1, h5, hc, hz, hx, Int.toNat_natCast, size_mk, IA, PA, RA0, RA1, RA2, RA3, RA4, RA5, RA6, RA7, RA8, RA9, RA10, Nat.reduceAdd, Nat.reduceMul, Nat.reduceEqDiff, Nat.reduceLeDiff, Nat.reduceLT, Int.reduceToNat, Int.reduceLT, Int.reduceLE, Int.reduceEq, Int.reduceNeg, Int.reduceAdd, Int.reduceSub, Int.reduceMul, reduceIte] at hq
      refine ⟨_, _, .inr ⟨hq.symm, ?_⟩⟩
      simp [findFrom]
    · have he2 : ¬ ((x.toNat : Int) = (c.toNat : Int)) := fun h => he (UInt8.toNat_inj.1 (by omega))
      simp only [h0, h1, h5, hc, hz, hx, he2, hw, Int.toNat_natCast, size_mk, IA, PA, RA0, RA1, RA2, RA3, RA4, RA5, RA6, RA7, RA8, RA9, RA10, Nat.reduceAdd, Nat.reduceMul, Nat.reduceEqDiff, Nat.reduceLeDiff, Nat.reduceLT, Int.reduceToNat, Int.reduceLT, Int.reduceLE, Int.reduceEq, Int.reduceNeg, Int.reduceAdd, Int.reduceSub, Int.reduceMul, reduceIte] at hq
      rw [findFrom, if_neg he]
      exact ih (i + 1) k _ σ _ q hd' (by omega) (by simpa using hn) hq h0 h1 rfl
theorem lt_MX {n : Nat} (h : n < 9223372036854775808) : n < MX := Nat.lt_of_lt_of_le h (by decide)
theorem l13Find_ev (l : List UInt8) (c : UInt8) (hl : l.length < 4611686018427387904) : EE 29 [S l, U c] = some (N (findFrom c 0 l)) := by
  refine EE_plain T_l13Find (by decide) (Nat.le_of_ble_eq_true rfl) (by rfl) ?_
  rw [show opt 29 = [] from rfl]
  simp only [bodyOf, Tryz.f29, SA]
  simp only [IA, PA, RA0, RA1, RA2, RA3, RA4, RA5, RA6, RA7, RA8, RA9, RA10, Nat.reduceAdd, Nat.reduceMul, Nat.reduceEqDiff, Nat.reduceLeDiff, Nat.reduceLT, Int.reduceToNat, Int.reduceLT, Int.reduceLE, Int.reduceEq, Int.reduceNeg, Int.reduceAdd, Int.reduceSub, Int.reduceMul, reduceIte]
  generalize hq : roundsE _ _ _ = q
  obtain ⟨e', nx', h | h⟩ := l13Find_loop l c hl l 0 MX _ _ _ q rfl (Nat.zero_le _) (lt_MX (by omega)) hq rfl rfl rfl
  · obtain ⟨h1, rfl⟩ := h
    simp only [h1, IA, PA, RA0, RA1, RA2, RA3, RA4, RA5, RA6, RA7, RA8, RA9, RA10, Nat.reduceAdd, Nat.reduceMul, Nat.reduceEqDiff, Nat.reduceLeDiff, Nat.reduceLT, Int.reduceToNat, Int.reduceLT, Int.reduceLE, Int.reduceEq, Int.reduceNeg, Int.reduceAdd, Int.reduceSub, Int.reduceMul, reduceIte]
  · obtain ⟨rfl, h4⟩ := h
    simp only [h4, IA, PA, RA0, RA1, RA2, RA3, RA4, RA5, RA6, RA7, RA8, RA9, RA10, Nat.reduceAdd, Nat.reduceMul, Nat.reduceEqDiff, Nat.reduceLeDiff, Nat.reduceLT, Int.reduceToNat, Int.reduceLT, Int.reduceLE, Int.reduceEq, Int.reduceNeg, Int.reduceAdd, Int.reduceSub, Int.reduceMul, reduceIte]
end
end Go.Proofs.YtegbkihgnofkfaaGreatDoor.Ev

/-
Terms: what a text reads as (one reader for both), and how terms lie in memory.
-/
namespace Go.Proofs.YtegbkihgnofkfaaGreatDoor.Ev
section
set_option linter.unusedVariables false
set_option linter.unusedSimpArgs false
open Go Go.RowKit
set_option linter.unusedVariables false
set_option linter.unusedSimpArgs false

inductive T where
  | dig (c : UInt8)
  | var (c : UInt8)
  | one (s : UInt8) (x : T)
  | two (s : UInt8) (x y : T)
  | loop (s v : UInt8) (x y : T)

def isVar (c : UInt8) : Bool := [97, 98, 118, 119, 120, 121, 122].contains c
def isDig (c : UInt8) : Bool := decide (48 ≤ c.toNat) && decide (c.toNat ≤ 57)
def isOne (c : UInt8) : Bool := [83, 77, 73, 78, 82, 67, 80].contains c
def isTwo (c : UInt8) : Bool := [43, 42, 94, 45, 61, 60, 64].contains c
def isLV (c : UInt8) : Bool := decide (118 ≤ c.toNat) && decide (c.toNat ≤ 122)

/-- What is behind a term with two parts. -/
def rdTwo (f : List UInt8 → Option (T × List UInt8)) (r : List UInt8) : Option (T × List UInt8) :=
  match f r with
  | some (x, s :: r2) => if isTwo s = true then (match f r2 with | some (y, z :: r4) => if z = 41 then some (.two s x y, r4) else none | _ => none) else none
  | _ => none
def rdLoop (f : List UInt8 → Option (T × List UInt8)) (c : UInt8) (r : List UInt8) : Option (T × List UInt8) :=
  match r with
  | v :: d :: r1 => if isLV v = true ∧ d = 58 then (match f r1 with
    | some (x, q :: r2) => if q = 62 then (match f r2 with | some (y, z :: r4) => if z = c + 2 then some (.loop c v x y, r4) else none | _ => none) else none
    | _ => none) else none
  | _ => none
/-- The term at the beginning of a text, and what is behind it. -/
def rd : Nat → List UInt8 → Option (T × List UInt8)
  | 0, _ => none
  | _ + 1, [] => none
  | n + 1, c :: r =>
    if isVar c then some (.var c, r)
    else if isDig c then some (.dig c, r)
    else if isOne c then (match rd n r with | some (x, r1) => some (.one c x, r1) | none => none)
    else if c = 40 then rdTwo (rd n) r
    else if c = 91 ∨ c = 123 then rdLoop (rd n) c r
    else none

theorem rd_less : ∀ (n : Nat) (s : List UInt8) (t : T) (r : List UInt8), rd n s = some (t, r) → r.length < s.length := by
  intro n
  induction n with
  | zero => intro s t r h; cases h
  | succ n ih =>
    intro s t r h
    cases s with
    | nil => cases h
    | cons c s =>
      simp only [rd] at h
      split at h
      · simp only [Option.some.injEq, Prod.mk.injEq] at h; obtain ⟨_, rfl⟩ := h; simp
      split at h
      · simp only [Option.some.injEq, Prod.mk.injEq] at h; obtain ⟨_, rfl⟩ := h; simp
      split at h
      · split at h
        · rename_i x r1 h1
          simp only [Option.some.injEq, Prod.mk.injEq] at h; obtain ⟨_, rfl⟩ := h
          have := ih _ _ _ h1
          simp only [List.length_cons]
          omega
        · cases h
      split at h
      · unfold rdTwo at h
        split at h
        · rename_i x q r2 h1
          split at h
          · split at h
            · rename_i y z r4 h2
              split at h
              · simp only [Option.some.injEq, Prod.mk.injEq] at h; obtain ⟨_, rfl⟩ := h
                have := ih _ _ _ h1
                have := ih _ _ _ h2
                simp only [List.length_cons] at *
                omega
              · cases h
            · cases h
          · cases h
        · cases h
      split at h
      · unfold rdLoop at h
        split at h
        · rename_i v d r1
          split at h
          · split at h
            · rename_i x q r2 h1
              split at h
              · split at h
                · rename_i y z r4 h2
                  split at h
                  · simp only [Option.some.injEq, Prod.mk.injEq] at h; obtain ⟨_, rfl⟩ := h
                    have := ih _ _ _ h1
                    have := ih _ _ _ h2
                    simp only [List.length_cons] at *
                    omega
                  · cases h
                · cases h
              · cases h
            · cases h
          · cases h
        · cases h
      · cases h

/-- A pointer to a term. -/
def encP : T → AV
  | .dig c => .p [S [c], S [], .s true 0 []]
  | .var c => .p [S [c], S [], .s true 0 []]
  | .one s x => .p [S [s], S [], .s true 1 [encP x]]
  | .two s x y => .p [S [s], S [], .s true 2 [encP x, encP y]]
  | .loop s v x y => .p [S [s], S [v], .s true 2 [encP x, encP y]]
theorem encP_closed : ∀ t, closed (encP t) = true
  | .dig c => rfl
  | .var c => rfl
  | .one s x => by simp only [encP, closed, closedL, encP_closed x, Bool.and_self]
  | .two s x y => by simp only [encP, closed, closedL, encP_closed x, encP_closed y, Bool.and_self]
  | .loop s v x y => by simp only [encP, closed, closedL, encP_closed x, encP_closed y, Bool.and_self]
/-- A term's three cells. -/
def encN : T → List AV
  | .dig c => [U 48, U c, .s true 0 []]
  | .var c => [U 97, U c, .s true 0 []]
  | .one s x => [U s, U 0, .s true 1 (encN x)]
  | .two s x y => [U s, U 0, .s true 2 (encN x ++ encN y)]
  | .loop s v x y => [U s, U v, .s true 2 (encN x ++ encN y)]
theorem encN_len : ∀ t, (encN t).length = 3
  | .dig c => rfl
  | .var c => rfl
  | .one s x => rfl
  | .two s x y => rfl
  | .loop s v x y => rfl
theorem encN_closed : ∀ t, closedL (encN t) = true
  | .dig c => rfl
  | .var c => rfl
  | .one s x => by simp only [encN, closed, closedL, encN_closed x, Bool.and_self]
  | .two s x y => by simp only [encN, closed, closedL, closedL_append, encN_closed x, encN_closed y, Bool.and_self]
  | .loop s v x y => by simp only [encN, closed, closedL, closedL_append, encN_closed x, encN_closed y, Bool.and_self]
theorem encN_leaf : ∀ t, (encN t).all leafOk = true
  | .dig c => rfl
  | .var c => rfl
  | .one s x => rfl
  | .two s x y => rfl
  | .loop s v x y => rfl

theorem bin_encP (op : BinOp) (q : Nat) (t : T) : bin op (.ptr q) (encP t) nilP = eqB op false := by cases t <;> rfl
theorem leaves_encP (t : T) : leaves (encP t) = some [encP t] := by cases t <;> rfl
theorem leafOk_encP (t : T) : leafOk (encP t) = true := by cases t <;> rfl
theorem leaves_encN (t : T) : leaves (.a (encN t)) = some (encN t) := rfl

/-! ### small laws of texts -/
theorem less_one (a b : UInt8) : Op.bytesLess [a] [b] = decide (a < b) := by simp [Op.bytesLess]
theorem beq_one (a b : UInt8) : (([a] : List UInt8) == [b]) = decide (a = b) := by
  rw [Bool.eq_iff_iff]
  simp
theorem beq_nil (a : UInt8) (l : List UInt8) : ((a :: l : List UInt8) == []) = false := rfl
theorem nil_beq (a : UInt8) (l : List UInt8) : (([] : List UInt8) == a :: l) = false := rfl
theorem nil_nil : (([] : List UInt8) == []) = true := rfl
theorem beq_two_one (a b c : UInt8) (l : List UInt8) : ((a :: b :: l : List UInt8) == [c]) = false := by
  rw [Bool.eq_false_iff]
  simp
theorem pre_nil (a : UInt8) : (([a] : List UInt8).isPrefixOf []) = false := rfl
theorem pre_cons (a x : UInt8) (l : List UInt8) : (([a] : List UInt8).isPrefixOf (x :: l)) = decide (a = x) := by
  rw [Bool.eq_iff_iff]
  simp [List.isPrefixOf]
theorem dig_less (c : UInt8) : ((!decide (c < 48)) && (decide (c < 57) || decide (c = 57))) = isDig c := by
  rw [Bool.eq_iff_iff]
  simp only [isDig, Bool.and_eq_true, Bool.or_eq_true, Bool.not_eq_true', decide_eq_false_iff_not, decide_eq_true_eq, UInt8.lt_iff_toNat_lt, ← UInt8.toNat_inj]
  show ¬ c.toNat < 48 ∧ (c.toNat < 57 ∨ c.toNat = 57) ↔ _
  omega
theorem cut_one_hi (c : UInt8) (l : List UInt8) : cut 0 (S (c :: l)) none (some (N 1)) = some (S [c]) := by
  rw [cut_str_hi, if_pos (by simp; omega)]
  rfl
theorem cut_one_lo (c : UInt8) (l : List UInt8) : cut 0 (S (c :: l)) (some (N 1)) none = some (S l) := by
  rw [cut_str_lo, if_pos (by simp; omega)]
  rfl
theorem cut_two_lo (c d : UInt8) (l : List UInt8) : cut 0 (S (c :: d :: l)) (some (N 2)) none = some (S l) := by
  rw [cut_str_lo, if_pos (by simp; omega)]
  rfl
theorem adoptT (σ : Sto) (key : Nat) (x : AV) (l : List UInt8) (h : closed x = true) : adopt σ key (.t [x, S l]) = some (.t [x, S l], σ) := adopt_t2 x _ (adopt1_closed h) rfl
theorem giveT (σ : Sto) (x : AV) (l : List UInt8) (h : closed x = true) : giveAll σ [x, S l] = some (.t [x, S l]) := giveAll_two (by simp only [closedL, h, closed, Bool.and_self])
theorem one_le (n : Nat) : ((1 : Int) ≤ ((n + 1 : Nat) : Int)) = True := eq_true (by omega)
theorem two_le (n : Nat) : ((2 : Int) ≤ ((n + 1 + 1 : Nat) : Int)) = True := eq_true (by omega)
theorem lt_two (n : Nat) : (((n + 1 + 1 : Nat) : Int) < 2) = False := eq_false (by omega)
theorem encN_take (t : T) : (encN t).take 3 = encN t := List.take_of_length_le (by rw [encN_len]; omega)
theorem encN_take2 (x y : T) : (encN x ++ encN y).take 3 = encN x := by rw [List.take_append_of_le_length (by rw [encN_len]; omega), encN_take]
theorem encN_drop2 (x y : T) : (encN x ++ encN y).drop 3 = encN y := by
  rw [List.drop_append, List.drop_of_length_le (by rw [encN_len]; omega), encN_len]
  rfl
theorem encN_len2 (x y : T) : (encN x ++ encN y).length = 6 := by rw [List.length_append, encN_len, encN_len]
theorem u8_0 : (((0 : UInt8).toNat : Nat) : Int) = 0 := rfl
theorem bytesOf_zero : bytesOf [.v (.int .u8 0)] = some [0] := rfl
theorem TMA : (type_of% @bytesOf_zero) ∧ (type_of% @encN_take) ∧ (type_of% @encN_take2) ∧ (type_of% @encN_drop2) ∧ (type_of% @encN_len2) ∧ (type_of% @u8_0) ∧ (type_of% @one_le) ∧ (type_of% @two_le) ∧ (type_of% @lt_two) ∧ (type_of% @bin_encP) ∧ (type_of% @leaves_encP) ∧ (type_of% @leafOk_encP) ∧ (type_of% @encP_closed) ∧ (type_of% @encN_len) ∧ (type_of% @encN_closed) ∧ (type_of% @encN_leaf) ∧ (type_of% @less_one) ∧ (type_of% @beq_one) ∧ (type_of% @beq_nil) ∧ (type_of% @nil_beq) ∧ (type_of% @nil_nil) ∧ (type_of% @beq_two_one) ∧ (type_of% @pre_nil) ∧ (type_of% @pre_cons) ∧ (type_of% @cut_one_hi) ∧ (type_of% @cut_one_lo) ∧ (type_of% @cut_two_lo) ∧ (type_of% @adoptT) ∧ (type_of% @giveT) :=
  ⟨@bytesOf_zero, @encN_take, @encN_take2, @encN_drop2, @encN_len2, @u8_0, @one_le, @two_le, @lt_two, @bin_encP, @leaves_encP, @leafOk_encP, @encP_closed, @encN_len, @encN_closed, @encN_leaf, @less_one, @beq_one, @beq_nil, @nil_beq, @nil_nil, @beq_two_one, @pre_nil, @pre_cons, @cut_one_hi, @cut_one_lo, @cut_two_lo, @adoptT, @giveT⟩
end
end Go.Proofs.YtegbkihgnofkfaaGreatDoor.Ev
