/-
FnNumbers: for every two inputs of the draws the law's function returns true. Plain laws on the printed functions; no memory in them.
-/
import Derived.Test.YtibjofpgbcbloaaDoorFmt
import Derived.Test.YtibjofpgbcbloaaDoorDraw
import Derived.Test.YtibjofpgbcbloaaDoorDig
import Derived.Test.YtibjofpgbcbloaaDoorFA9
import Derived.Test.YtibjofpgbcbloaaDoorFA10
import Derived.Test.YtibjofpgbcbloaaDoorFA4
namespace Go.Proofs.YtibjofpgbcbloaaDoor.PA
open Go Go.RowKit Go.Proofs.YtibjofpgbcbloaaDoorW.PrintWords Go.Proofs.YtibjofpgbcbloaaDoorW.PrintLast Go.Proofs.YtibjofpgbcbloaaDoor.Dig

theorem faSame_loop (a b : List Int) (ha : a.length ≤ 100000000000000) : ∀ (m i : Nat), min a.length b.length - i = m → i ≤ min a.length b.length → a.take i = b.take i →
    Ev (fun k => laws_faSame.l0 k a b ((min a.length b.length : Nat) : Int) (i : Int)) (decide (a = b))
  | 0, i, hm, hi, ht => by
    have h : ¬ ((i : Int) < ((min a.length b.length : Nat) : Int)) := by omega
    have hr : ((a.length : Int) == (b.length : Int)) = decide (a = b) := by
      by_cases he : a = b
      · subst he; simp
      · rw [decide_eq_false he, beq_eq_false_iff_ne]
        intro hl
        apply he
        rw [List.take_of_length_le (by omega), List.take_of_length_le (by omega)] at ht
        exact ht
    rw [← hr]
    exact Ev.step (f := fun _ => _) (fun k => by rw [laws_faSame.l0, if_neg h]) (Ev.now _)
  | m + 1, i, hm, hi, ht => by
    have h1 : i < a.length := by omega
    have h2 : i < b.length := by omega
    by_cases he : a[i] = b[i]
    · have ih := faSame_loop a b ha m (i + 1) (by omega) (by omega) (by
        rw [List.take_add_one, List.take_add_one, ht, List.getElem?_eq_getElem h1, List.getElem?_eq_getElem h2, he])
      refine Ev.step (fun k => ?_) ih
      rw [laws_faSame.l0, if_pos (by omega), if_pos (by omega), if_pos (by omega), if_pos (by omega), rd_get _ _ h1, rd_get _ _ h2, if_pos he, w64_succ h1 (by omega)]
    · have hne : a ≠ b := by
        intro hab
        subst hab
        exact he rfl
      rw [decide_eq_false hne]
      refine Ev.step (f := fun _ => _) (fun k => ?_) (Ev.now _)
      rw [laws_faSame.l0, if_pos (by omega), if_pos (by omega), if_pos (by omega), if_pos (by omega), rd_get _ _ h1, rd_get _ _ h2, if_neg he]
theorem faSame_ev (a b : List Int) (ha : a.length ≤ 100000000000000) : Ev (fun k => laws_faSame.f k a b) (decide (a = b)) := by
  have h := faSame_loop a b ha _ 0 rfl (by omega) rfl
  refine Ev.congr (fun k => ?_) h
  unfold laws_faSame.f
  have : mn (a.length : Int) (b.length : Int) = ((min a.length b.length : Nat) : Int) := by unfold mn; split <;> omega
  rw [this]
  rfl
/-! ### the text tells the list -/
theorem itoa_bytes (n : Int) : ∀ c ∈ Lib.itoa n, c ≠ 32 := by
  intro c hc h
  subst h
  have hd : ∀ u, (32 : UInt8) ∉ Lib.decDigits u := fun u hu => by
    have := isDig_iff.1 (decDigits_dig u 32 hu)
    have e : (32 : UInt8).toNat = 32 := rfl
    omega
  unfold Lib.itoa at hc
  by_cases hn : n < 0
  · rw [if_pos hn] at hc
    rcases List.mem_cons.1 hc with h | h
    · exact absurd h (by decide)
    · exact hd _ h
  · rw [if_neg hn] at hc
    exact hd _ hc
theorem digits_head (u : Nat) : ∃ c t, Lib.decDigits u = c :: t ∧ c ≠ 45 := by
  have h := decDigits_dig u
  match hl : Lib.decDigits u with
  | [] =>
    rw [Lib.decDigits] at hl
    by_cases h2 : u < 10
    · rw [dif_pos h2] at hl; simp at hl
    · rw [dif_neg h2] at hl; simp at hl
  | c :: t =>
    refine ⟨c, t, rfl, ?_⟩
    rintro rfl
    have := isDig_iff.1 (h 45 (by rw [hl]; exact List.mem_cons_self))
    have e : (45 : UInt8).toNat = 45 := rfl
    omega
theorem itoa_inj (m n : Int) (h : Lib.itoa m = Lib.itoa n) : m = n := by
  unfold Lib.itoa at h
  by_cases hm : m < 0
  · rw [if_pos hm] at h
    by_cases hn : n < 0
    · rw [if_pos hn] at h
      have h2 := congrArg (dec 0) (List.cons.inj h).2
      rw [dec_decDigits, dec_decDigits] at h2
      omega
    · rw [if_neg hn] at h
      obtain ⟨c, t, hc, hne⟩ := digits_head n.toNat
      rw [hc] at h
      exact absurd (List.cons.inj h).1.symm hne
  · rw [if_neg hm] at h
    by_cases hn : n < 0
    · rw [if_pos hn] at h
      obtain ⟨c, t, hc, hne⟩ := digits_head m.toNat
      rw [hc] at h
      exact absurd (List.cons.inj h).1 hne
    · rw [if_neg hn] at h
      have h2 := congrArg (dec 0) h
      rw [dec_decDigits, dec_decDigits] at h2
      omega
/-- What stands behind a text: nothing, or a blank and more. -/
def Beh (t : List UInt8) : Prop := t = [] ∨ ∃ r, t = 32 :: r
theorem split_same : ∀ (x y t1 t2 : List UInt8), (∀ c ∈ x, c ≠ 32) → (∀ c ∈ y, c ≠ 32) → Beh t1 → Beh t2 → x ++ t1 = y ++ t2 → x = y ∧ t1 = t2
  | [], [], _, _, _, _, _, _, h => ⟨rfl, h⟩
  | [], c :: y, t1, t2, _, hy, h1, _, h => by
    rcases h1 with rfl | ⟨r, rfl⟩
    · simp at h
    · rw [List.nil_append, List.cons_append] at h
      exact absurd (List.cons.inj h).1.symm (hy c List.mem_cons_self)
  | c :: x, [], t1, t2, hx, _, _, h2, h => by
    rcases h2 with rfl | ⟨r, rfl⟩
    · simp at h
    · rw [List.nil_append, List.cons_append] at h
      exact absurd (List.cons.inj h).1 (hx c List.mem_cons_self)
  | c :: x, d :: y, t1, t2, hx, hy, h1, h2, h => by
    rw [List.cons_append, List.cons_append] at h
    obtain ⟨rfl, h3⟩ := List.cons.inj h
    obtain ⟨rfl, h4⟩ := split_same x y t1 t2 (fun z hz => hx z (List.mem_cons_of_mem _ hz)) (fun z hz => hy z (List.mem_cons_of_mem _ hz)) h1 h2 h3
    exact ⟨rfl, h4⟩
theorem joined_beh (x : List UInt8) (r : List (List UInt8)) : ∃ t, joined 32 (x :: r) = x ++ t ∧ Beh t ∧ (t = [] ↔ r = []) ∧ ∀ s, t = 32 :: s → s = joined 32 r := by
  by_cases h : r = []
  · subst h
    exact ⟨[], by rw [joined_one, List.append_nil], .inl rfl, by simp, fun s hs => by simp at hs⟩
  · exact ⟨32 :: joined 32 r, joined_cons _ _ _ h, .inr ⟨_, rfl⟩, by simp [h], fun s hs => ((List.cons.inj hs).2).symm⟩
theorem joined_inj : ∀ (xs ys : List (List UInt8)), (∀ x ∈ xs, x ≠ [] ∧ ∀ c ∈ x, c ≠ 32) → (∀ y ∈ ys, y ≠ [] ∧ ∀ c ∈ y, c ≠ 32) → joined 32 xs = joined 32 ys → xs = ys
  | [], [], _, _, _ => rfl
  | [], y :: s, _, hy, h => by
    obtain ⟨t, ht, _⟩ := joined_beh y s
    rw [ht, joined_nil] at h
    have := (List.append_eq_nil_iff.1 h.symm).1
    exact absurd this (hy y List.mem_cons_self).1
  | x :: r, [], hx, _, h => by
    obtain ⟨t, ht, _⟩ := joined_beh x r
    rw [ht, joined_nil] at h
    have := (List.append_eq_nil_iff.1 h).1
    exact absurd this (hx x List.mem_cons_self).1
  | x :: r, y :: s, hx, hy, h => by
    obtain ⟨t, ht, hb, hn, hs⟩ := joined_beh x r
    obtain ⟨t', ht', hb', hn', hs'⟩ := joined_beh y s
    rw [ht, ht'] at h
    obtain ⟨rfl, rfl⟩ := split_same x y t t' (hx x List.mem_cons_self).2 (hy y List.mem_cons_self).2 hb hb' h
    rcases hb with hb | ⟨u, hu⟩
    · rw [hn.1 hb, hn'.1 hb]
    · have e : joined 32 r = joined 32 s := (hs u hu).symm.trans (hs' u hu)
      rw [joined_inj r s (fun z hz => hx z (List.mem_cons_of_mem _ hz)) (fun z hz => hy z (List.mem_cons_of_mem _ hz)) e]
theorem sp_inj (a b : List Int) (h : sp a = sp b) : a = b := by
  have hp : ∀ l : List Int, ∀ x ∈ l.map Lib.itoa, x ≠ [] ∧ ∀ c ∈ x, c ≠ 32 := fun l x hx => by
    obtain ⟨n, _, rfl⟩ := List.mem_map.1 hx
    exact ⟨itoa_ne n, itoa_bytes n⟩
  have h2 := joined_inj _ _ (hp a) (hp b) h
  exact (List.map_inj_right (fun m n hmn => itoa_inj m n hmn)).1 h2
theorem sp_dash (a : List Int) (h0 : a ≠ []) : sp a ≠ [45] := by
  cases a with
  | nil => exact absurd rfl h0
  | cons n r =>
    intro h
    obtain ⟨t, ht, -, -, -⟩ := joined_beh (Lib.itoa n) (r.map Lib.itoa)
    have h2 : Lib.itoa n ++ t = [45] := ht.symm.trans h
    unfold Lib.itoa at h2
    by_cases hn : n < 0
    · rw [if_pos hn] at h2
      obtain ⟨c, u, hc, _⟩ := digits_head n.natAbs
      rw [hc] at h2
      simp at h2
    · rw [if_neg hn] at h2
      obtain ⟨c, u, hc, hne⟩ := digits_head n.toNat
      rw [hc] at h2
      rw [List.cons_append] at h2
      exact hne (List.cons.inj h2).1
theorem spaced_inj (a b : List Int) (h : spaced a = spaced b) : a = b := by
  unfold spaced at h
  by_cases ha : a = []
  · by_cases hb : b = []
    · rw [ha, hb]
    · rw [if_pos ha, if_neg hb] at h
      exact absurd (ba_inj h).symm (sp_dash b hb)
  · by_cases hb : b = []
    · rw [if_neg ha, if_pos hb] at h
      exact absurd (ba_inj h) (sp_dash a ha)
    · rw [if_neg ha, if_neg hb] at h
      exact sp_inj a b (ba_inj h)
/-! ### the draws -/
def drawn : List Int := [0, 1, (-1), 12, 3, (-9223372036854775808), 10006]
theorem draw_loop (b : List Int) (hb : U8s b) (hl : b.length ≤ 2000) (n : Nat) (hn : n ≤ 5) : ∀ (m i p : Nat) (acc : List Int), n - i = m → i ≤ n → p ≤ 1000 + i → acc.length ≤ i → (∀ x ∈ acc, x ∈ drawn) →
    ∃ out, (∀ x ∈ out, x ∈ drawn) ∧ out.length ≤ 5 ∧ Ev (fun k => spec_DrawFormatNumbers.l0 k acc (n : Int) (i : Int) b (p : Int)) out
  | 0, i, p, acc, hm, hi, hp, ha, hd => by
    refine ⟨acc, hd, by omega, Ev.step (f := fun _ => _) (fun k => ?_) (Ev.now _)⟩
    rw [spec_DrawFormatNumbers.l0, if_neg (by omega)]
  | m + 1, i, p, acc, hm, hi, hp, ha, hd => by
    obtain ⟨x, hx, hv⟩ := num_ev b hb hl p (by omega) drawn (by decide) (by decide)
    obtain ⟨out, h1, h2, h3⟩ := draw_loop b hb hl n hn m (i + 1) (p + 1) (acc ++ [x]) (by omega) (by omega) (by omega) (by rw [List.length_append]; simp only [List.length_singleton]; omega) (fun y hy => by
      rcases List.mem_append.1 hy with hy | hy
      · exact hd y hy
      · rw [List.mem_singleton.1 hy]; exact hx)
    refine ⟨out, h1, h2, ?_⟩
    refine Ev.step (f := fun k => (spec_l13Rd_num.f k b (p : Int) drawn).bind fun bt => (if acc.length < 17592186044416 then (spec_DrawFormatNumbers.l0 k (acc ++ [bt.1]) (n : Int) ((i + 1 : Nat) : Int) b bt.2) else none)) (fun k => ?_) (Ev.bind hv ?_)
    · rw [spec_DrawFormatNumbers.l0, if_pos (by omega), w64_succ (show i < n by omega) (by omega)]
      rfl
    · exact Ev.congr (fun k => if_pos (by omega)) h3
theorem draw_ev (l : List Int) (h : U8s l) : ∃ out, (∀ x ∈ out, x ∈ drawn) ∧ out.length ≤ 5 ∧ Ev (fun k => spec_DrawFormatNumbers.f k l) out := by
  obtain ⟨b, hb, hl, ho⟩ := open_ev l h
  obtain ⟨v, v0, v1, -, hv⟩ := pick_ev b hb hl 0 (by omega) 5 (by omega)
  have v2 := v1 (by omega)
  obtain ⟨n, rfl⟩ : ∃ n : Nat, v = (n : Int) := ⟨v.toNat, by omega⟩
  obtain ⟨out, h1, h2, h3⟩ := draw_loop b hb hl n (by omega) n 0 1 [] rfl (by omega) (by omega) (by simp) (by simp)
  refine ⟨out, h1, h2, Ev.congr (fun k => by unfold spec_DrawFormatNumbers.f; rw [ho, Option.bind_some]) (Ev.bind hv ?_)⟩
  exact h3
theorem drawn_I64 (l : List Int) (h : ∀ x ∈ l, x ∈ drawn) : ∀ x ∈ l, I64 x := by
  have hd : ∀ x ∈ drawn, I64 x := by
    intro x hx
    unfold drawn at hx
    simp only [List.mem_cons, List.not_mem_nil, or_false] at hx
    unfold I64
    omega
  exact fun x hx => hd x (h x hx)
theorem wf_u8 {n : Int} (h : (Lit.int .u8 n).wf = true) : 0 ≤ n ∧ n ≤ 255 := by
  simp [Lit.wf, IntKind.min, IntKind.max, IntKind.signed, IntKind.bits] at h
  omega
theorem law_FnNumbers : laws_FnNumbers.Pure := by
  intro l0 l1 _ _ h0 _ _ h1
  refine Ev.rounds ?_
  have htrue : Ev (fun k => laws_FnNumbers.j0 k l0 l1 true) true := Ev.step (f := fun _ => _) (fun k => by rw [laws_FnNumbers.j0, if_pos rfl]) (Ev.now _)
  by_cases hb : (l0.length : Int) > 1048576
  · exact Ev.congr (fun k => by unfold laws_FnNumbers.f; rw [if_pos hb]) htrue
  by_cases hc : (l1.length : Int) > 1048576
  · exact Ev.congr (fun k => by unfold laws_FnNumbers.f; rw [if_neg hb, decide_eq_true hc]) htrue
  obtain ⟨a, a1, a2, a3⟩ := draw_ev l0 (fun x hx => wf_u8 (h0 x hx))
  obtain ⟨b, b1, b2, b3⟩ := draw_ev l1 (fun x hx => wf_u8 (h1 x hx))
  have ia := impl_format a (drawn_I64 a a1) (by omega)
  have sa := spec_format a (drawn_I64 a a1) (by omega)
  have ib := impl_format b (drawn_I64 b b1) (by omega)
  have hs := faSame_ev a b (by omega)
  refine Ev.congr (f := fun k => laws_FnNumbers.j0 k l0 l1 false) (fun k => by unfold laws_FnNumbers.f; rw [if_neg hb, decide_eq_false hc]) ?_
  refine Ev.step (f := _) (fun k => by rw [laws_FnNumbers.j0, if_neg (by decide)]) (Ev.bind a3 (Ev.bind b3 (Ev.bind ia (Ev.bind sa ?_))))
  simp only [if_true]
  refine Ev.bind ia (Ev.bind ib (Ev.bind hs ?_))
  have hr : (((spaced a).toList == (spaced b).toList) == decide (a = b)) = true := by
    by_cases hab : a = b
    · subst hab
      simp
    · have hne : ((spaced a).toList == (spaced b).toList) = false := by
        rw [beq_eq_false_iff_ne]
        intro he
        apply hab
        apply spaced_inj
        rw [ByteArray.toList_eq, ByteArray.toList_eq] at he
        rw [← ba_list (spaced a), ← ba_list (spaced b), he]
      rw [hne, decide_eq_false hab]
      rfl
  rw [hr]
  exact Ev.now _
end Go.Proofs.YtibjofpgbcbloaaDoor.PA
