/-
Decimal digits as lists of bytes: what a list of digits tells, the digits of a number, and how the library's reader of numbers ends at a list of digits. Plain laws on numbers and lists; no program in sight.
-/
import Derived.Lib.ItoaNum
import Derived.Lib.AtoiAll
namespace Go.Proofs.YtdhfdepnleioiaaDoor.Dig
open Go.Lib

def isDig (c : UInt8) : Bool := decide (48 ≤ c.toNat) && decide (c.toNat ≤ 57)
theorem isDig_iff {c : UInt8} : isDig c = true ↔ 48 ≤ c.toNat ∧ c.toNat ≤ 57 := by simp [isDig]
/-- What digits tell, behind what was told. -/
def dec (acc : Nat) (l : List UInt8) : Nat := l.foldl (fun a c => a * 10 + (c.toNat - 48)) acc
theorem dec_nil (acc : Nat) : dec acc [] = acc := by unfold dec; rw [List.foldl_nil]
theorem dec_cons (acc : Nat) (c : UInt8) (r : List UInt8) : dec acc (c :: r) = dec (acc * 10 + (c.toNat - 48)) r := by unfold dec; rw [List.foldl_cons]
theorem dec_append (l m : List UInt8) (acc : Nat) : dec acc (l ++ m) = dec (dec acc l) m := by unfold dec; rw [List.foldl_append]
theorem dec_ge_pow : ∀ (l : List UInt8) (acc : Nat), acc * 10 ^ l.length ≤ dec acc l
  | [], acc => by simp [dec_nil]
  | c :: r, acc => by
    have h := dec_ge_pow r (acc * 10 + (c.toNat - 48))
    simp only [dec_cons, List.length_cons, Nat.pow_succ]
    refine Nat.le_trans ?_ h
    have e : acc * (10 ^ r.length * 10) = acc * 10 * 10 ^ r.length := by rw [Nat.mul_comm (10 ^ r.length) 10, Nat.mul_assoc]
    rw [e]
    exact Nat.mul_le_mul_right _ (Nat.le_add_right _ _)
theorem dec_lt : ∀ (l : List UInt8) (acc : Nat), (∀ c ∈ l, isDig c = true) → dec acc l < (acc + 1) * 10 ^ l.length
  | [], acc, _ => by simp [dec_nil]
  | c :: r, acc, h => by
    have hc := isDig_iff.1 (h c List.mem_cons_self)
    have h1 := dec_lt r (acc * 10 + (c.toNat - 48)) (fun x hx => h x (List.mem_cons_of_mem _ hx))
    simp only [dec_cons, List.length_cons, Nat.pow_succ]
    refine Nat.lt_of_lt_of_le h1 ?_
    have e : (acc + 1) * (10 ^ r.length * 10) = (acc + 1) * 10 * 10 ^ r.length := by rw [Nat.mul_comm (10 ^ r.length) 10, Nat.mul_assoc]
    rw [e]
    exact Nat.mul_le_mul_right _ (by omega)
theorem ofNat_toNat {u : Nat} (h : u < 10) : (UInt8.ofNat (48 + u)).toNat = 48 + u := by
  rw [UInt8.toNat_ofNat']
  omega
theorem decDigits_small {u : Nat} (h : u < 10) : decDigits u = [UInt8.ofNat (48 + u)] := decDigits_one h
theorem decDigits_big {u : Nat} (h : ¬ u < 10) : decDigits u = decDigits (u / 10) ++ [UInt8.ofNat (48 + u % 10)] := by
  rw [decDigits, dif_neg h]
theorem decDigits_dig (u : Nat) : ∀ c ∈ decDigits u, isDig c = true := by
  induction u using Nat.strongRecOn with
  | _ u ih =>
    intro c hc
    by_cases h : u < 10
    · rw [decDigits_small h] at hc
      rw [List.mem_singleton.1 hc, isDig_iff, ofNat_toNat h]
      omega
    · rw [decDigits_big h] at hc
      rcases List.mem_append.1 hc with hc | hc
      · exact ih _ (by omega) c hc
      · rw [List.mem_singleton.1 hc, isDig_iff, ofNat_toNat (by omega)]
        omega
theorem dec_decDigits (u : Nat) : dec 0 (decDigits u) = u := by
  induction u using Nat.strongRecOn with
  | _ u ih =>
    by_cases h : u < 10
    · rw [decDigits_small h]
      simp only [dec_cons, dec_nil, ofNat_toNat h]
      omega
    · rw [decDigits_big h, dec_append, ih _ (by omega)]
      simp only [dec_cons, dec_nil, ofNat_toNat (show u % 10 < 10 by omega)]
      omega
theorem decDigits_ne (u : Nat) : decDigits u ≠ [] := by
  by_cases h : u < 10
  · rw [decDigits_small h]
    simp
  · rw [decDigits_big h]
    simp
/-- No zero ahead, but for the one digit. -/
theorem decDigits_head (u : Nat) : u < 10 ∨ (decDigits u).head? ≠ some 48 := by
  induction u using Nat.strongRecOn with
  | _ u ih =>
    by_cases h : u < 10
    · exact .inl h
    · right
      rw [decDigits_big h]
      have hne := decDigits_ne (u / 10)
      have e : (decDigits (u / 10) ++ [UInt8.ofNat (48 + u % 10)]).head? = (decDigits (u / 10)).head? := by
        cases hd : decDigits (u / 10) with
        | nil => exact absurd hd hne
        | cons x r => rfl
      rw [e]
      rcases ih (u / 10) (by omega) with h1 | h1
      · rw [decDigits_small h1]
        simp only [List.head?_cons, ne_eq, Option.some.injEq]
        intro hx
        have := congrArg UInt8.toNat hx
        rw [ofNat_toNat h1] at this
        have e48 : (48 : UInt8).toNat = 48 := rfl
        omega
      · exact h1
theorem decDigits_len_one {u : Nat} (h : u < 10) : (decDigits u).length = 1 := by rw [decDigits_small h]; rfl
/-- Digits without a zero ahead are those of the number that they tell. -/
theorem decDigits_dec (l : List UInt8) (hd : ∀ c ∈ l, isDig c = true) (hne : l ≠ []) (hh : l.length = 1 ∨ l.head? ≠ some 48) : decDigits (dec 0 l) = l := by
  have key : ∀ n, ∀ l : List UInt8, l.length = n → (∀ c ∈ l, isDig c = true) → l ≠ [] → (l.length = 1 ∨ l.head? ≠ some 48) → decDigits (dec 0 l) = l := by
    intro n
    induction n using Nat.strongRecOn with
    | _ n ih =>
      intro l hn hd hne hh
      obtain ⟨m, c, rfl⟩ : ∃ m c, l = m ++ [c] := ⟨l.dropLast, l.getLast hne, (List.dropLast_concat_getLast hne).symm⟩
      have hc := isDig_iff.1 (hd c (by simp))
      have hcc : UInt8.ofNat (48 + (c.toNat - 48)) = c := by
        apply UInt8.toNat_inj.1
        rw [ofNat_toNat (by omega)]
        omega
      rw [dec_append]
      simp only [dec_cons, dec_nil]
      cases m with
      | nil =>
        simp only [dec_nil, Nat.zero_mul, Nat.zero_add, List.nil_append]
        rw [decDigits_small (by omega), hcc]
      | cons x r =>
        have hx := isDig_iff.1 (hd x (by simp))
        have hx48 : x ≠ 48 := by
          intro e
          rcases hh with hh | hh
          · simp at hh
          · exact hh (by simp [e])
        have hx49 : 49 ≤ x.toNat := by
          rcases Nat.lt_or_ge 48 x.toNat with h | h
          · omega
          · exact absurd (UInt8.toNat_inj.1 (show x.toNat = (48 : UInt8).toNat from by have e48 : (48 : UInt8).toNat = 48 := rfl; omega)) hx48
        have hm1 : 1 ≤ dec 0 (x :: r) := by
          have := dec_ge_pow r (x.toNat - 48)
          simp only [dec_cons, Nat.zero_mul, Nat.zero_add]
          have hp : 1 ≤ 10 ^ r.length := Nat.one_le_pow _ _ (by decide)
          calc 1 = 1 * 1 := rfl
            _ ≤ (x.toNat - 48) * 10 ^ r.length := Nat.mul_le_mul (by omega) hp
            _ ≤ _ := this
        have hi := ih (x :: r).length (by rw [← hn]; simp) (x :: r) rfl (fun y hy => hd y (List.mem_append_left _ hy)) (by simp) (by
          right
          simp only [List.head?_cons, ne_eq, Option.some.injEq]
          exact hx48)
        rw [decDigits_big (by omega)]
        have e1 : (dec 0 (x :: r) * 10 + (c.toNat - 48)) / 10 = dec 0 (x :: r) := by omega
        have e2 : (dec 0 (x :: r) * 10 + (c.toNat - 48)) % 10 = c.toNat - 48 := by omega
        rw [e1, e2, hi, hcc]
  exact key _ l rfl hd hne hh
theorem parse_digits : ∀ (l : List UInt8) (acc : Nat), acc < 18446744073709551616 → (∀ c ∈ l, isDig c = true) → parseUint10 acc l = if dec acc l < 18446744073709551616 then .ok (dec acc l) else .range
  | [], acc, ha, _ => by simp [parseUint10, dec_nil, ha]
  | c :: r, acc, ha, h => by
    have hc := isDig_iff.1 (h c List.mem_cons_self)
    have hge := dec_ge_pow r (acc * 10 + (c.toNat - 48))
    have hp : 1 ≤ 10 ^ r.length := Nat.one_le_pow _ _ (by decide)
    have hge1 : acc * 10 + (c.toNat - 48) ≤ dec (acc * 10 + (c.toNat - 48)) r := Nat.le_trans (by simpa using Nat.mul_le_mul_left (acc * 10 + (c.toNat - 48)) hp) hge
    simp only [parseUint10, dec_cons]
    rw [if_pos hc]
    by_cases h1 : 1844674407370955162 ≤ acc
    · rw [if_pos h1, if_neg (show ¬ dec (acc * 10 + (c.toNat - 48)) r < 18446744073709551616 by omega)]
    · rw [if_neg h1]
      by_cases h2 : 18446744073709551616 ≤ acc * 10 + (c.toNat - 48)
      · rw [if_pos h2, if_neg (show ¬ dec (acc * 10 + (c.toNat - 48)) r < 18446744073709551616 by omega)]
      · rw [if_neg h2]
        exact parse_digits r _ (by omega) (fun x hx => h x (List.mem_cons_of_mem _ hx))
theorem atoi_digits (l : List UInt8) (hne : l ≠ []) (hd : ∀ c ∈ l, isDig c = true) : atoiAll l = if dec 0 l < 9223372036854775808 then .ok (dec 0 l : Int) else .range := by
  cases l with
  | nil => exact absurd rfl hne
  | cons c r =>
    have hc := isDig_iff.1 (hd c List.mem_cons_self)
    have hp := parse_digits (c :: r) 0 (by decide) hd
    unfold atoiAll
    simp only
    rw [if_neg (show ¬ (c.toNat = 43 ∨ c.toNat = 45) by omega)]
    unfold parseMag
    rw [if_neg (by simp), hp]
    by_cases h1 : dec 0 (c :: r) < 18446744073709551616
    · rw [if_pos h1]
      simp only
      by_cases h2 : dec 0 (c :: r) < 9223372036854775808
      · rw [if_pos h2, if_neg (by omega), if_neg (by omega), if_neg (by omega)]
      · rw [if_neg h2, if_pos (by omega)]
    · rw [if_neg h1, if_neg (by omega)]
end Go.Proofs.YtdhfdepnleioiaaDoor.Dig
