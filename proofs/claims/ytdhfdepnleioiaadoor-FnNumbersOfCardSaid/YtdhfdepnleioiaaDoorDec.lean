/-
The reference's decimal text of a number is the library's, for every 64-bit number. Plain laws on a printed function; no memory in them.
-/
import Derived.Test.YtdhfdepnleioiaaDoorFA72
import Derived.Lib.ItoaNum
namespace Go.Proofs.YtdhfdepnleioiaaDoor.PA
open Go Go.RowKit Go.Proofs.YtdhfdepnleioiaaDoorW.PrintWords Go.Proofs.YtdhfdepnleioiaaDoorW.PrintLast

/-- A text of a list of bytes. -/
def ba (l : List UInt8) : ByteArray := ⟨l.toArray⟩
theorem ba_append (l m : List UInt8) : ba l ++ ba m = ba (l ++ m) := by
  apply ByteArray.ext
  rw [ByteArray.data_append]
  simp [ba]
theorem ba_size (l : List UInt8) : (ba l).size = l.length := by simp [ba, ByteArray.size]
theorem ba_list (s : ByteArray) : ba s.data.toList = s := by
  apply ByteArray.ext
  simp [ba]
theorem ba_data (l : List UInt8) : (ba l).data.toList = l := by simp [ba]
theorem ba_inj {l m : List UInt8} (h : ba l = ba m) : l = m := by rw [← ba_data l, h, ba_data]
theorem strOne (n : Int) : strOfNums [n] = ba [UInt8.ofNat n.toNat] := rfl
theorem w64_dec {x : Int} (h0 : -9223372036854775808 ≤ x) (h1 : x ≤ 9223372036854775807) : wrap64 x = x := by unfold wrap64; omega
theorem l13Dec_loop : ∀ (m u : Nat) (acc : List UInt8), u ≤ m → u ≤ 9223372036854775807 → acc.length + Lib.nDigits u ≤ 1000 → Ev (fun k => spec_l13Dec.l0 k (u : Int) (ba acc)) (ba (Lib.decDigits u ++ acc)) := by
  intro m
  induction m with
  | zero =>
    intro u acc hu _ hl
    obtain rfl : u = 0 := by omega
    refine Ev.step (f := fun _ => _) (fun k => ?_) (Ev.now _)
    have h9 : ¬ (((0 : Nat) : Int) > 9) := by decide
    rw [spec_l13Dec.l0, if_neg h9, Option.bind_some, strOne, if_pos (by rw [ba_size, ba_size]; simp only [List.length_singleton]; omega), ba_append, Lib.decDigits_one (by decide)]
    have e : (wrap64 (48 + ((0 : Nat) : Int)) % 256).toNat = 48 + 0 := by rw [w64_dec (by omega) (by omega)]; omega
    rw [e]
  | succ m ih =>
    intro u acc hu hb hl
    by_cases h : u < 10
    · refine Ev.step (f := fun _ => _) (fun k => ?_) (Ev.now _)
      have h9 : ¬ ((u : Int) > 9) := by omega
      rw [spec_l13Dec.l0, if_neg h9, Option.bind_some, strOne, if_pos (by rw [ba_size, ba_size]; simp only [List.length_singleton]; omega), ba_append, Lib.decDigits_one h, w64_dec (by omega) (by omega)]
      have e : ((48 + (u : Int)) % 256).toNat = 48 + u := by omega
      rw [e]
    · have h9 : (u : Int) > 9 := by omega
      have hd : Int.tdiv (u : Int) 10 = ((u / 10 : Nat) : Int) := by rw [Int.tdiv_eq_ediv_of_nonneg (by omega)]; omega
      have hm : Int.tmod (u : Int) 10 = ((u % 10 : Nat) : Int) := by rw [Int.tmod_eq_emod_of_nonneg (by omega)]; omega
      have hn : Lib.nDigits u = Lib.nDigits (u / 10) + 1 := Lib.nDigits_big h
      have hrec := ih (u / 10) (UInt8.ofNat (48 + u % 10) :: acc) (by omega) (by omega) (by simp only [List.length_cons]; omega)
      have e : (wrap64 (48 + ((u % 10 : Nat) : Int)) % 256).toNat = 48 + u % 10 := by rw [w64_dec (by omega) (by omega)]; omega
      have hw : wrap64 ((u / 10 : Nat) : Int) = ((u / 10 : Nat) : Int) := w64_dec (by omega) (by omega)
      have hg : Lib.decDigits u ++ acc = Lib.decDigits (u / 10) ++ (UInt8.ofNat (48 + u % 10) :: acc) := by
        rw [Lib.decDigits, dif_neg h]
        simp
      rw [hg]
      refine Ev.step (f := fun k => spec_l13Dec.l0 k ((u / 10 : Nat) : Int) (ba (UInt8.ofNat (48 + u % 10) :: acc))) (fun k => ?_) hrec
      rw [spec_l13Dec.l0, if_pos h9, Option.bind_some, strOne, if_pos (by rw [ba_size, ba_size]; simp only [List.length_singleton]; omega), ba_append, hd, hm, e, hw]
      rfl
theorem nDigits_le : ∀ (k u : Nat), u < 10 ^ k → 1 ≤ k → Lib.nDigits u ≤ k
  | 0, _, _, h => by omega
  | k + 1, u, h, _ => by
    by_cases h1 : u < 10
    · rw [Lib.nDigits_small h1]; omega
    · rw [Lib.nDigits_big h1]
      rw [Nat.pow_succ] at h
      have h2 : 1 ≤ k := by
        cases k with
        | zero => simp at h; omega
        | succ k => omega
      have := nDigits_le k (u / 10) (by omega) h2
      omega
theorem l13Dec_nat (u : Nat) (h : u ≤ 9223372036854775807) : Ev (fun k => spec_l13Dec.f k (u : Int)) (ba (Lib.itoa (u : Int))) := by
  have hd := nDigits_le 19 u (by omega) (by decide)
  have h0 := l13Dec_loop u u [] (Nat.le_refl _) h (by simp only [List.length_nil]; omega)
  have e : Lib.itoa (u : Int) = Lib.decDigits u ++ [] := by
    unfold Lib.itoa
    rw [if_neg (by omega), List.append_nil]
    rfl
  rw [e]
  refine Ev.step (f := fun k => spec_l13Dec.l0 k (u : Int) (ba [])) (fun k => ?_) h0
  rw [spec_l13Dec.f, if_neg (by omega), if_neg (by omega)]
  rfl
theorem itoa_size (n : Int) (h0 : -9223372036854775808 ≤ n) (h1 : n ≤ 9223372036854775807) : (Lib.itoa n).length ≤ 20 := by
  have hlen : ∀ (k u : Nat), Lib.nDigits u = k → (Lib.decDigits u).length = k := by
    intro k
    induction k with
    | zero => intro u hu; have := Lib.nDigits_pos u; omega
    | succ k ih =>
      intro u hu
      by_cases h : u < 10
      · rw [Lib.decDigits_one h]
        rw [Lib.nDigits_small h] at hu
        simpa using hu
      · rw [Lib.nDigits_big h] at hu
        rw [Lib.decDigits, dif_neg h, List.length_append, ih (u / 10) (by omega)]
        rfl
  unfold Lib.itoa
  by_cases hn : n < 0
  · rw [if_pos hn, List.length_cons, hlen _ _ rfl]
    have := nDigits_le 19 n.natAbs (by omega) (by decide)
    omega
  · rw [if_neg hn, hlen _ _ rfl]
    have := nDigits_le 19 n.toNat (by omega) (by decide)
    omega
theorem l13Dec_all (n : Int) (h0 : -9223372036854775808 ≤ n) (h1 : n ≤ 9223372036854775807) : Ev (fun k => spec_l13Dec.f k n) (ba (Lib.itoa n)) := by
  by_cases hm : n < -9223372036854775807
  · obtain rfl : n = -9223372036854775808 := by omega
    refine Ev.step (f := fun _ => _) (fun k => ?_) (Ev.now _)
    rw [spec_l13Dec.f, if_pos hm]
    have : Lib.itoa (-9223372036854775808) = [45, 57, 50, 50, 51, 51, 55, 50, 48, 51, 54, 56, 53, 52, 55, 55, 53, 56, 48, 56] := by decide +kernel
    rw [this]
    rfl
  by_cases hn : n < 0
  · obtain ⟨u, rfl⟩ : ∃ u : Nat, n = -(u : Int) := ⟨n.natAbs, by omega⟩
    have hw : wrap64 (- -(u : Int)) = (u : Int) := by rw [w64_dec (by omega) (by omega)]; omega
    have hs := itoa_size (u : Int) (by omega) (by omega)
    have e : Lib.itoa (-(u : Int)) = [45] ++ Lib.itoa (u : Int) := by
      unfold Lib.itoa
      rw [if_pos hn, if_neg (by omega)]
      simp
    rw [e, ← ba_append]
    refine Ev.step (f := fun k => (spec_l13Dec.f k (u : Int)).bind fun t => (if 1 + t.size ≤ 9223372036854775807 then (some (ba [45] ++ t)) else none)) (fun k => ?_) (Ev.bind (l13Dec_nat u (by omega)) ?_)
    · rw [spec_l13Dec.f, if_neg hm, if_pos hn, hw]
      rfl
    · rw [if_pos (by rw [ba_size]; omega)]
      exact Ev.now _
  · obtain ⟨u, rfl⟩ : ∃ u : Nat, n = (u : Int) := ⟨n.toNat, by omega⟩
    exact l13Dec_nat u (by omega)
end Go.Proofs.YtdhfdepnleioiaaDoor.PA
