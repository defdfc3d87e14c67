/-
The program's and the reference's readers of arrays read the same: of any text, from any place on, both take the same array and stop at the same place, or both take none. Plain laws on the printed functions; no memory in sight.
-/
import Derived.Test.YtdhfdepnleioiaaDoorDig
import Derived.Laws.Strings
import Derived.Test.YtdhfdepnleioiaaDoorFA84
import Derived.Test.YtdhfdepnleioiaaDoorFA70
import Derived.Test.YtdhfdepnleioiaaDoorFA91
import Derived.Test.YtdhfdepnleioiaaDoorFA59
import Derived.Test.YtdhfdepnleioiaaDoorFA71
namespace Go.Proofs.YtdhfdepnleioiaaDoor.PA
open Go Go.RowKit Go.Proofs.YtdhfdepnleioiaaDoorW.PrintWords Go.Proofs.YtdhfdepnleioiaaDoorW.PrintLast Go.Proofs.YtdhfdepnleioiaaDoor.Dig

theorem w64 {x : Int} (h0 : -9223372036854775808 ≤ x) (h1 : x ≤ 9223372036854775807) : wrap64 x = x := by unfold wrap64; omega
/-! ### texts from a place on -/
def suf (s : ByteArray) (p : Nat) : ByteArray := s.extract p s.size
theorem suf_size (s : ByteArray) (p : Nat) : (suf s p).size = s.size - p := by unfold suf; rw [ByteArray.size_extract]; omega
theorem bt_eq (s : ByteArray) (i : Nat) (h : i < s.size) : bt s (i : Int) = ((s[i]'h).toNat : Int) := by unfold bt; simp [h]
theorem bt_suf (s : ByteArray) (p i : Nat) (h : p + i < s.size) : bt (suf s p) (i : Int) = bt s ((p + i : Nat) : Int) := by
  have h1 : i < (suf s p).size := by rw [suf_size]; omega
  rw [bt_eq _ _ h1, bt_eq _ _ h]
  have e : (suf s p)[i]'h1 = s[p + i]'h := ByteArray.getElem_extract (by exact h1)
  rw [e]
theorem bt_suf0 (s : ByteArray) (p : Nat) (h : p < s.size) : bt (suf s p) 0 = bt s (p : Int) := by
  have := bt_suf s p 0 (by omega)
  simpa using this
theorem suf_suf (s : ByteArray) (p k : Nat) : (suf s p).extract k (suf s p).size = suf s (p + k) := by
  rw [suf_size]
  unfold suf
  rw [ByteArray.extract_extract]
  congr 1
  omega
theorem suf_take (s : ByteArray) (p k : Nat) (h : p + k ≤ s.size) : (suf s p).extract 0 k = s.extract p (p + k) := by
  unfold suf
  rw [ByteArray.extract_extract]
  congr 1
  omega
theorem toList_nil_iff (s : ByteArray) : s.toList = [] ↔ s.size = 0 := by
  rw [ByteArray.toList_eq]
  constructor
  · intro h
    have : s.data.toList.length = 0 := by rw [h]; rfl
    rwa [Array.length_toList] at this
  · intro h
    apply List.eq_nil_of_length_eq_zero
    rw [Array.length_toList]
    exact h
/-! ### how many digits stand ahead -/
def isD (s : ByteArray) (i : Nat) : Prop := 48 ≤ bt s (i : Int) ∧ bt s (i : Int) ≤ 57
/-- e digits stand from p on, and no more. -/
structure Digs (s : ByteArray) (p e : Nat) : Prop where
  le : p + e ≤ s.size
  all : ∀ i, i < e → isD s (p + i)
  stop : p + e < s.size → ¬ isD s (p + e)
theorem digs_ex (s : ByteArray) : ∀ (d p : Nat), p ≤ s.size → s.size - p = d → ∃ e, Digs s p e
  | 0, p, h, hd => ⟨0, by omega, fun i hi => absurd hi (Nat.not_lt_zero _), fun hs => by omega⟩
  | d + 1, p, h, hd => by
    by_cases hp : isD s p
    · obtain ⟨e, he⟩ := digs_ex s d (p + 1) (by omega) (by omega)
      refine ⟨e + 1, by have := he.le; omega, fun i hi => ?_, fun hs => ?_⟩
      · cases i with
        | zero => exact hp
        | succ i =>
          have := he.all i (by omega)
          rwa [show p + (i + 1) = p + 1 + i by omega]
      · have := he.stop (by omega)
        rwa [show p + (e + 1) = p + 1 + e by omega]
    · exact ⟨0, by omega, fun i hi => absurd hi (Nat.not_lt_zero _), fun _ => hp⟩
/-- The digits as a list. -/
theorem seg_get (s : ByteArray) (p m i : Nat) (h : p + m ≤ s.size) (hi : i < m) : ∃ c, (s.extract p (p + m)).data.toList[i]? = some c ∧ bt s ((p + i : Nat) : Int) = (c.toNat : Int) := by
  have hl : (s.extract p (p + m)).size = m := by rw [ByteArray.size_extract]; omega
  have hx : i < (s.extract p (p + m)).size := by omega
  refine ⟨(s.extract p (p + m))[i]'hx, ?_, ?_⟩
  · have : i < (s.extract p (p + m)).data.toList.length := by rw [Array.length_toList]; exact hx
    rw [List.getElem?_eq_getElem this, Array.getElem_toList]
    rfl
  · rw [bt_eq _ _ (by omega), ByteArray.getElem_extract]
theorem seg_len (s : ByteArray) (p m : Nat) (h : p + m ≤ s.size) : (s.extract p (p + m)).data.toList.length = m := by
  rw [Array.length_toList]
  have : (s.extract p (p + m)).size = m := by rw [ByteArray.size_extract]; omega
  exact this
theorem seg_dig (s : ByteArray) (p m : Nat) (h : p + m ≤ s.size) (hd : ∀ i, i < m → isD s (p + i)) : ∀ c ∈ (s.extract p (p + m)).data.toList, isDig c = true := by
  intro c hc
  obtain ⟨i, hi, he⟩ := List.mem_iff_getElem.1 hc
  have hm : i < m := by rw [seg_len s p m h] at hi; exact hi
  obtain ⟨c', h1, h2⟩ := seg_get s p m i h hm
  rw [List.getElem?_eq_getElem hi, he] at h1
  obtain rfl := Option.some.inj h1
  obtain ⟨h3, h4⟩ := hd i hm
  rw [h2] at h3 h4
  rw [isDig_iff]
  omega
/-! ### the program's reader of a number -/
theorem readArr_scan (u : ByteArray) (hu : u.size ≤ 1000) (e : Nat) (h : Digs u 0 e) {r : Int × List S62 × ByteArray × Bool} (hj : Ev (fun k => impl_readArr.j1 k u (e : Int)) r) :
    ∀ (d i : Nat), i + d = e → Ev (fun k => impl_readArr.l0 k u (i : Int)) r
  | 0, i, hi => by
    obtain rfl : i = e := by omega
    refine Ev.step (f := fun k => impl_readArr.j1 k u (i : Int)) (fun k => ?_) hj
    simp only [impl_readArr.l0]
    by_cases hs : (i : Int) < (u.size : Int)
    · rw [if_pos hs, if_pos (by omega)]
      have := h.stop (by omega)
      rw [Nat.zero_add] at this
      by_cases h1 : bt u (i : Int) ≥ 48
      · rw [if_pos h1, if_neg (fun h2 => this ⟨h1, h2⟩)]
      · rw [if_neg h1]
    · rw [if_neg hs]
  | d + 1, i, hi => by
    have ih := readArr_scan u hu e h hj d (i + 1) (by omega)
    refine Ev.step (f := fun k => impl_readArr.l0 k u ((i + 1 : Nat) : Int)) (fun k => ?_) ih
    simp only [impl_readArr.l0]
    have hle := h.le
    have hd := h.all i (by omega)
    rw [Nat.zero_add] at hd
    rw [if_pos (by omega), if_pos (by omega), if_pos hd.1, if_pos hd.2, w64 (by omega) (by omega)]
    rfl
/-- What the digits tell, if they are those of a number below the modulus. -/
def numOf (l : List UInt8) : Option Int := if l = Lib.decDigits (dec 0 l) ∧ dec 0 l < 10007 then some (dec 0 l : Int) else none
theorem readArr_num (u : ByteArray) (hu : u.size ≤ 1000) (e : Nat) (h : Digs u 0 e) :
    Ev (fun k => impl_readArr.f k u 0) (match numOf (u.extract 0 e).data.toList with | some v => (v, [], u.extract e u.size, true) | none => (0, [], ⟨#[]⟩, false)) := by
  have hle := h.le
  refine Ev.step (f := fun k => impl_readArr.l0 k u 0) (fun k => by simp only [impl_readArr.f]; exact if_pos trivial) ?_
  refine readArr_scan u hu e h ?_ e 0 (by omega)
  have hlen := seg_len u 0 e (by omega)
  have hdig := seg_dig u 0 e (by omega) h.all
  rw [Nat.zero_add] at hlen hdig
  generalize hl : (u.extract 0 e).data.toList = l at hlen hdig
  refine Ev.step (f := fun _ => _) (fun k => ?_) (Ev.now _)
  simp only [impl_readArr.j1]
  rw [if_pos (by omega), if_pos (by omega), Int.toNat_natCast]
  have hsz : (u.extract 0 e).size ≤ 140737488355328 := by rw [ByteArray.size_extract]; omega
  have ha : strconv_Atoi.f (u.extract 0 e) = (match Lib.atoiAll l with | .ok v => some (v, none) | .range => some (Lib.atoiSat l, some 0) | _ => some (0, some 0)) := by
    unfold strconv_Atoi.f
    rw [if_pos hsz, hl]
    rfl
  rw [ha]
  by_cases hne : l = []
  · rw [hne]
    simp [numOf, Lib.atoiAll, Lib.decDigits, dec_nil]
  · rw [atoi_digits l hne hdig]
    by_cases hb : dec 0 l < 9223372036854775808
    · rw [if_pos hb]
      simp only [Option.bind_some, Option.isNone_none, if_true]
      by_cases hm : (dec 0 l : Int) ≥ 10007
      · rw [if_pos hm]
        have : numOf l = none := by unfold numOf; rw [if_neg (by omega)]
        rw [this]
      · rw [if_neg hm]
        have hi : strconv_Itoa.f (dec 0 l : Int) = some ⟨(Lib.decDigits (dec 0 l)).toArray⟩ := by
          unfold strconv_Itoa.f
          rw [if_pos (by omega), if_pos (by omega)]
          unfold Lib.itoa
          rw [if_neg (by omega), Int.toNat_natCast]
        rw [hi]
        simp only [Option.bind_some]
        have hq : ((⟨(Lib.decDigits (dec 0 l)).toArray⟩ : ByteArray).toList = (u.extract 0 e).toList) ↔ l = Lib.decDigits (dec 0 l) := by
          rw [ByteArray.toList_eq, ByteArray.toList_eq, hl]
          exact eq_comm
        by_cases hc : l = Lib.decDigits (dec 0 l)
        · rw [if_pos (hq.2 hc)]
          have : numOf l = some (dec 0 l : Int) := by unfold numOf; rw [if_pos ⟨hc, by omega⟩]
          rw [this]
        · rw [if_neg (fun x => hc (hq.1 x))]
          have : numOf l = none := by unfold numOf; rw [if_neg (fun x => hc x.1)]
          rw [this]
    · rw [if_neg hb]
      have : numOf l = none := by unfold numOf; rw [if_neg (by omega)]
      rw [this]
      simp
/-! ### the reference's reader of a number -/
theorem num_loop (x : ByteArray) (hx : x.size ≤ 17) (l : List UInt8) (hl : x.data.toList = l) (hdig : ∀ c ∈ l, isDig c = true) :
    ∀ (d i : Nat), i + d = l.length → Ev (fun k => spec_l13Num.l0 k x false (dec 0 (l.take i) : Int) (i : Int)) ((dec 0 l : Int), true)
  | 0, i, hi => by
    have hlen : l.length = x.size := by rw [← hl, Array.length_toList]; rfl
    refine Ev.step (f := fun _ => _) (fun k => ?_) (Ev.now _)
    simp only [spec_l13Num.l0]
    rw [if_neg (by omega), if_neg (by decide), List.take_of_length_le (by omega)]
  | d + 1, i, hi => by
    have hlen : l.length = x.size := by rw [← hl, Array.length_toList]; rfl
    have ih := num_loop x hx l hl hdig d (i + 1) (by omega)
    have hil : i < l.length := by omega
    have hb : bt x (i : Int) = ((l[i]'hil).toNat : Int) := by
      rw [bt_eq x i (by omega)]
      have : x[i]'(by omega) = l[i]'hil := by
        subst hl
        rw [Array.getElem_toList]
        rfl
      rw [this]
    have hd := isDig_iff.1 (hdig _ (List.getElem_mem hil))
    have htk : l.take (i + 1) = l.take i ++ [l[i]'hil] := List.take_succ_eq_append_getElem hil
    have hv : dec 0 (l.take (i + 1)) = dec 0 (l.take i) * 10 + ((l[i]'hil).toNat - 48) := by rw [htk, dec_append, dec_cons, dec_nil]
    have hlt : dec 0 (l.take i) < 100000000000000000 := by
      have h1 := dec_lt (l.take i) 0 (fun c hc => hdig c (List.mem_of_mem_take hc))
      have h2 : (l.take i).length ≤ 16 := by rw [List.length_take]; omega
      have h3 : 10 ^ (l.take i).length ≤ 10 ^ 16 := Nat.pow_le_pow_right (by decide) h2
      simp only [Nat.zero_add, Nat.one_mul] at h1
      have h4 : (10 : Nat) ^ 16 = 10000000000000000 := by decide
      omega
    refine Ev.step (f := fun k => spec_l13Num.l0 k x false (dec 0 (l.take (i + 1)) : Int) ((i + 1 : Nat) : Int)) (fun k => ?_) ih
    simp only [spec_l13Num.l0]
    rw [if_pos (by omega), if_pos (by omega), hb, if_neg (by omega), if_neg (by omega), w64 (x := (dec 0 (l.take i) : Int) * 10) (by omega) (by omega), w64 (x := (i : Int) + 1) (by omega) (by omega)]
    have e : (((l[i]'hil).toNat : Int) - 48) % 256 = (((l[i]'hil).toNat - 48 : Nat) : Int) := by omega
    rw [e, w64 (by omega) (by omega), hv]
    rfl
/-- The reference's reader of numbers at a list of at most 17 digits. -/
theorem num_spec (x : ByteArray) (hx : x.size ≤ 17) (hdig : ∀ c ∈ x.data.toList, isDig c = true) :
    Ev (fun k => spec_l13Num.f k x) (if x.data.toList ≠ [] ∧ (x.data.toList.length = 1 ∨ x.data.toList.head? ≠ some 48) then ((dec 0 x.data.toList : Int), true) else (0, false)) := by
  generalize hl : x.data.toList = l at hdig
  have hlen : l.length = x.size := by rw [← hl, Array.length_toList]; rfl
  have hj2 : Ev (fun k => spec_l13Num.j2 k x false true) (0, false) := by
    refine Ev.step (f := fun _ => _) (fun k => ?_) (Ev.now _)
    simp only [spec_l13Num.j2]
    rfl
  have hl0 : Ev (fun k => spec_l13Num.j2 k x false false) ((dec 0 l : Int), true) := by
    refine Ev.step (f := fun k => spec_l13Num.l0 k x false 0 0) (fun k => ?_) ?_
    · simp only [spec_l13Num.j2]
      rfl
    · have := num_loop x hx l hl hdig l.length 0 (by omega)
      rw [List.take_zero, dec_nil] at this
      exact this
  cases l with
  | nil =>
    have hs : x.size = 0 := by simp at hlen; omega
    rw [if_neg (by simp)]
    refine Ev.congr (f := fun k => spec_l13Num.j0 k x false) (fun k => ?_) ?_
    · simp only [spec_l13Num.f]
      rw [if_neg (by omega)]
    · refine Ev.step (f := fun k => spec_l13Num.j1 k x false) (fun k => ?_) ?_
      · simp only [spec_l13Num.j0]
        rfl
      · refine Ev.step (f := fun k => spec_l13Num.j2 k x false true) (fun k => ?_) hj2
        simp only [spec_l13Num.j1]
        rw [if_pos (by omega)]
  | cons c r =>
    have hlen' : r.length + 1 = x.size := by simpa using hlen
    have hc := isDig_iff.1 (hdig c List.mem_cons_self)
    have hb : bt x 0 = (c.toNat : Int) := by
      have h0 : 0 < x.size := by omega
      have := bt_eq x 0 h0
      have e : x[0]'h0 = c := by
        have hz : 0 < x.data.toList.length := by rw [hl]; simp
        have : x.data.toList[0]'hz = c := by simp [hl]
        rw [← this, Array.getElem_toList]
        rfl
      rw [e] at this
      simpa using this
    have hj1 : Ev (fun k => spec_l13Num.j1 k x false) (if c :: r ≠ [] ∧ ((c :: r).length = 1 ∨ (c :: r).head? ≠ some 48) then ((dec 0 (c :: r) : Int), true) else (0, false)) := by
      by_cases h48 : c = 48
      · subst h48
        by_cases h1 : r.length = 0
        · rw [if_pos ⟨by simp, .inl (by simp [h1])⟩]
          refine Ev.step (f := fun k => spec_l13Num.j2 k x false false) (fun k => ?_) hl0
          simp only [spec_l13Num.j1]
          rw [if_neg (by omega), if_neg (by omega), if_pos (by omega), if_pos (by rw [hb]; rfl), if_neg (by omega)]
        · rw [if_neg (by simp [h1])]
          refine Ev.step (f := fun k => spec_l13Num.j2 k x false true) (fun k => ?_) hj2
          simp only [spec_l13Num.j1]
          rw [if_neg (by omega), if_neg (by omega), if_pos (by omega), if_pos (by rw [hb]; rfl), if_pos (by omega)]
      · have hne : ¬ bt x 0 = 48 := by
          rw [hb]
          intro h
          apply h48
          apply UInt8.toNat_inj.1
          have e48 : (48 : UInt8).toNat = 48 := rfl
          omega
        rw [if_pos ⟨by simp, .inr (by simpa using h48)⟩]
        refine Ev.step (f := fun k => spec_l13Num.j2 k x false false) (fun k => ?_) hl0
        simp only [spec_l13Num.j1]
        rw [if_neg (by omega), if_neg (by omega), if_pos (by omega), if_neg hne]
    refine Ev.congr (f := fun k => spec_l13Num.j0 k x false) (fun k => ?_) (Ev.step (f := fun k => spec_l13Num.j1 k x false) (fun k => ?_) hj1)
    · simp only [spec_l13Num.f]
      rw [if_pos (by omega), if_pos (by omega)]
      have : (bt x 0 == 45) = false := by
        rw [hb]
        exact beq_eq_false_iff_ne.2 (by omega)
      rw [this]
    · simp only [spec_l13Num.j0]
      rfl
theorem bt_nat (s : ByteArray) (i : Int) : 0 ≤ bt s i ∧ bt s i ≤ 255 := bt_range s i
theorem in_digit (s : ByteArray) (i : Nat) : spec_l1In.f (wrap64 (bt s (i : Int))) 48 57 = some (decide (48 ≤ bt s (i : Int)) && decide (bt s (i : Int) ≤ 57)) := by
  have h := bt_nat s (i : Int)
  rw [w64 (by omega) (by omega)]
  unfold spec_l1In.f
  by_cases h1 : bt s (i : Int) ≥ 48
  · rw [if_pos h1]
    simp [h1]
  · rw [if_neg h1]
    simp [h1]
/-- What the reference's reader of a number does behind its loop. -/
def numTail (k : Nat) (s : ByteArray) (p q : Nat) : Option (Int × ByteArray × Int × Bool) :=
  (spec_l13Num.f k (s.extract p q)).bind fun b => if b.2 = true then ((spec_l1In.f b.1 0 10006).bind fun t => some (b.1, s, (q : Int), !t)) else some (b.1, s, (q : Int), true)
theorem number_scan (s : ByteArray) (hs : s.size ≤ 1000) (p e m : Nat) (h : Digs s p e) (hm : m = min e 6) {r : Int × ByteArray × Int × Bool} (ht : Ev (fun k => numTail k s p (p + m)) r) :
    ∀ (d i : Nat), i + d = m → Ev (fun k => spec_l1Reader_number.l0 k (p : Int) s ((p + i : Nat) : Int) false) r
  | 0, i, hi => by
    obtain rfl : i = m := by omega
    have hle := h.le
    refine Ev.step (f := fun k => numTail k s p (p + i)) (fun k => ?_) ht
    have tail : (if 0 ≤ (p : Int) then (if (p : Int) ≤ ((p + i : Nat) : Int) then (if ((p + i : Nat) : Int) ≤ (s.size : Int) then ((spec_l13Num.f k (s.extract (p : Int).toNat ((p + i : Nat) : Int).toNat)).bind fun bt102 => (if false = true then (some (bt102.1, s, ((p + i : Nat) : Int), true)) else (if bt102.2 = true then ((spec_l1In.f bt102.1 0 10006).bind fun t104 => (some (bt102.1, s, ((p + i : Nat) : Int), !t104))) else (some (bt102.1, s, ((p + i : Nat) : Int), true))))) else none) else none) else none) = numTail k s p (p + i) := by
      rw [if_pos (by omega), if_pos (by omega), if_pos (by omega), Int.toNat_natCast, Int.toNat_natCast]
      rfl
    simp only [spec_l1Reader_number.l0]
    by_cases hlt : ((p + i : Nat) : Int) < (s.size : Int)
    · rw [if_pos hlt, if_pos (by omega), in_digit, Option.bind_some]
      by_cases hd : (decide (48 ≤ bt s ((p + i : Nat) : Int)) && decide (bt s ((p + i : Nat) : Int) ≤ 57)) = true
      · rw [if_pos hd]
        have hi6 : i = 6 := by
          rcases Nat.lt_or_ge e 6 with h6 | h6
          · have : i = e := by omega
            subst this
            exact absurd (by simpa [isD] using hd) (h.stop (by omega))
          · omega
        rw [if_neg (by rw [w64 (by omega) (by omega)]; omega)]
        exact tail
      · rw [if_neg hd]
        exact tail
    · rw [if_neg hlt]
      exact tail
  | d + 1, i, hi => by
    have hle := h.le
    have ih := number_scan s hs p e m h hm ht d (i + 1) (by omega)
    refine Ev.step (f := fun k => spec_l1Reader_number.l0 k (p : Int) s ((p + (i + 1) : Nat) : Int) false) (fun k => ?_) ih
    simp only [spec_l1Reader_number.l0]
    have hd := h.all i (by omega)
    rw [if_pos (by omega), if_pos (by omega), in_digit, Option.bind_some, if_pos (by simpa [isD] using hd), if_pos (by rw [w64 (by omega) (by omega)]; omega), w64 (x := ((p + i : Nat) : Int) + 1) (by omega) (by omega)]
    rfl
/-- Both readers of a number, at a place in a text. -/
theorem read0 (s : ByteArray) (hs : s.size ≤ 400) (p : Nat) (hp : p ≤ s.size) :
    (∃ v e : Nat, 1 ≤ e ∧ p + e ≤ s.size ∧ v ≤ 10006 ∧ (s.extract p (p + e)).data.toList = Lib.decDigits v ∧
        Ev (fun k => impl_readArr.f k (suf s p) 0) ((v : Int), [], suf s (p + e), true) ∧ Ev (fun k => spec_l1Reader_number.f k s (p : Int) false) ((v : Int), s, ((p + e : Nat) : Int), false)) ∨
      (Ev (fun k => impl_readArr.f k (suf s p) 0) (0, [], ⟨#[]⟩, false) ∧ ∃ (n : Int) (q : Nat), Ev (fun k => spec_l1Reader_number.f k s (p : Int) false) (n, s, (q : Int), true)) := by
  obtain ⟨e, h⟩ := digs_ex s _ p hp rfl
  have hle := h.le
  have hsz := suf_size s p
  have hu : Digs (suf s p) 0 e := by
    refine ⟨by omega, fun i hi => ?_, fun hi => ?_⟩
    · have := h.all i hi
      unfold isD at this ⊢
      rw [Nat.zero_add, bt_suf s p i (by omega)]
      exact this
    · have := h.stop (by omega)
      unfold isD at this ⊢
      rw [Nat.zero_add, bt_suf s p e (by omega)]
      exact this
  have hI := readArr_num (suf s p) (by omega) e hu
  rw [suf_take s p e hle, suf_suf] at hI
  have hm : (min e 6) ≤ e := Nat.min_le_left _ _
  have hsegd := seg_dig s p (min e 6) (by omega) (fun i hi => h.all i (by omega))
  have hsegl := seg_len s p (min e 6) (by omega)
  have hN : ∀ r, Ev (fun k => numTail k s p (p + min e 6)) r → Ev (fun k => spec_l1Reader_number.f k s (p : Int) false) r := by
    intro r hr
    have := number_scan s (by omega) p e (min e 6) h rfl hr (min e 6) 0 (by omega)
    refine Ev.congr (f := fun k => spec_l1Reader_number.l0 k (p : Int) s (p : Int) false) (fun k => rfl) this
  have hT := num_spec (s.extract p (p + min e 6)) (by rw [ByteArray.size_extract]; omega) hsegd
  have hdf := seg_dig s p e hle h.all
  have hlf := seg_len s p e hle
  generalize hL : (s.extract p (p + e)).data.toList = l at hI hdf hlf
  cases hnum : numOf l with
  | some v =>
    have hv : l = Lib.decDigits (dec 0 l) ∧ dec 0 l < 10007 ∧ v = (dec 0 l : Int) := by
      unfold numOf at hnum
      split at hnum
      · rename_i hc
        exact ⟨hc.1, hc.2, (Option.some.inj hnum).symm⟩
      · cases hnum
    obtain ⟨hv1, hv2, rfl⟩ := hv
    rw [hnum] at hI
    have hne : l ≠ [] := by rw [hv1]; exact decDigits_ne _
    have hpos : 0 < l.length := List.length_pos_iff.2 hne
    have hhead : l.length = 1 ∨ l.head? ≠ some 48 := by
      rcases decDigits_head (dec 0 l) with h1 | h1
      · left
        rw [hv1]
        exact decDigits_len_one h1
      · right
        rw [hv1]
        exact h1
    have he5 : e ≤ 5 := by
      rcases hhead with h1 | h1
      · omega
      · cases l with
        | nil => exact absurd rfl hne
        | cons c r =>
          have hc := isDig_iff.1 (hdf c List.mem_cons_self)
          have hc48 : c ≠ 48 := by simpa using h1
          have hc49 : 49 ≤ c.toNat := by
            rcases Nat.lt_or_ge 48 c.toNat with h2 | h2
            · omega
            · exact absurd (UInt8.toNat_inj.1 (show c.toNat = (48 : UInt8).toNat from by have e48 : (48 : UInt8).toNat = 48 := rfl; omega)) hc48
          have hge := dec_ge_pow r (c.toNat - 48)
          rw [dec_cons, Nat.zero_mul, Nat.zero_add] at hv2
          have hp1 : 1 * 10 ^ r.length ≤ (c.toNat - 48) * 10 ^ r.length := Nat.mul_le_mul_right _ (by omega)
          simp only [List.length_cons] at hlf
          rcases Nat.lt_or_ge r.length 5 with h3 | h3
          · omega
          · have : 10 ^ 5 ≤ 10 ^ r.length := Nat.pow_le_pow_right (by decide) h3
            have e5 : (10 : Nat) ^ 5 = 100000 := by decide
            omega
    have hmin : min e 6 = e := by omega
    rw [hmin, hL, if_pos ⟨hne, hhead⟩] at hT
    refine .inl ⟨dec 0 l, e, by omega, hle, by omega, hL.trans hv1, hI, hN _ ?_⟩
    rw [hmin]
    unfold numTail
    refine Ev.bind hT ?_
    simp only [if_true]
    have hin : spec_l1In.f (dec 0 l : Int) 0 10006 = some true := by
      unfold spec_l1In.f
      rw [if_pos (by omega)]
      exact congrArg some (decide_eq_true (by omega))
    simp only [hin, Option.bind_some]
    exact Ev.now _
  | none =>
    rw [hnum] at hI
    have hbad : ¬ (l = Lib.decDigits (dec 0 l) ∧ dec 0 l < 10007) := by
      intro hc
      unfold numOf at hnum
      rw [if_pos hc] at hnum
      cases hnum
    refine .inr ⟨hI, ?_⟩
    generalize hseg : (s.extract p (p + min e 6)).data.toList = g at hT hsegd hsegl
    by_cases hc : g ≠ [] ∧ (g.length = 1 ∨ g.head? ≠ some 48)
    · rw [if_pos hc] at hT
      have hbig : ¬ dec 0 g ≤ 10006 := by
        intro hle2
        rcases Nat.lt_or_ge e 6 with h6 | h6
        · have hmin : min e 6 = e := by omega
          rw [hmin, hL] at hseg
          subst hseg
          exact hbad ⟨(decDigits_dec l hdf hc.1 hc.2).symm, by omega⟩
        · have hg6 : g.length = 6 := by omega
          rcases hc.2 with h1 | h1
          · omega
          · cases g with
            | nil => exact hc.1 rfl
            | cons c r =>
              have hcd := isDig_iff.1 (hsegd c List.mem_cons_self)
              have hc48 : c ≠ 48 := by simpa using h1
              have hc49 : 49 ≤ c.toNat := by
                rcases Nat.lt_or_ge 48 c.toNat with h2 | h2
                · omega
                · exact absurd (UInt8.toNat_inj.1 (show c.toNat = (48 : UInt8).toNat from by have e48 : (48 : UInt8).toNat = 48 := rfl; omega)) hc48
              have hge := dec_ge_pow r (c.toNat - 48)
              have hr5 : r.length = 5 := by simpa using hg6
              rw [hr5] at hge
              rw [dec_cons, Nat.zero_mul, Nat.zero_add] at hle2
              have e5 : (10 : Nat) ^ 5 = 100000 := by decide
              omega
      refine ⟨(dec 0 g : Int), p + min e 6, hN _ ?_⟩
      unfold numTail
      refine Ev.bind hT ?_
      simp only [if_true]
      have hin : spec_l1In.f (dec 0 g : Int) 0 10006 = some false := by
        unfold spec_l1In.f
        rw [if_pos (by omega)]
        exact congrArg some (decide_eq_false (by omega))
      simp only [hin, Option.bind_some]
      exact Ev.now _
    · rw [if_neg hc] at hT
      refine ⟨0, p + min e 6, hN _ ?_⟩
      unfold numTail
      refine Ev.bind hT ?_
      simp only [Bool.false_eq_true, if_false]
      exact Ev.now _
end Go.Proofs.YtdhfdepnleioiaaDoor.PA
