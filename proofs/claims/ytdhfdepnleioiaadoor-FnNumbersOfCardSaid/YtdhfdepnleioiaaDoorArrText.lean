/-
The texts and the numbers of a valid array: the program's and the reference's functions give the same. Plain laws on the printed functions; no memory in them.
-/
import Derived.Test.YtdhfdepnleioiaaDoorArrOf
import Derived.Test.YtdhfdepnleioiaaDoorDec
import Derived.Test.YtdhfdepnleioiaaDoorFA53
import Derived.Test.YtdhfdepnleioiaaDoorFA52
import Derived.Test.YtdhfdepnleioiaaDoorFA57
import Derived.Test.YtdhfdepnleioiaaDoorFA55
import Derived.Test.YtdhfdepnleioiaaDoorFA73
import Derived.Test.YtdhfdepnleioiaaDoorFA60
namespace Go.Proofs.YtdhfdepnleioiaaDoor.PA
open Go Go.RowKit Go.Proofs.YtdhfdepnleioiaaDoorW.PrintWords Go.Proofs.YtdhfdepnleioiaaDoorW.PrintLast

/-- A loop over a list from its front, whose state is told by what has been passed. -/
theorem Ev_front {α β γ : Type} (ps : List α) (G : Nat → β → Int → Option γ) (F : List α → β) (r : γ)
    (hstep : ∀ i (h : i < ps.length), Ev (fun k => G k (F (ps.take i ++ [ps[i]])) ((i + 1 : Nat) : Int)) r → Ev (fun k => G k (F (ps.take i)) (i : Int)) r)
    (hend : Ev (fun k => G k (F ps) (ps.length : Int)) r) : Ev (fun k => G k (F []) 0) r := by
  have h : ∀ m i, ps.length - i = m → i ≤ ps.length → Ev (fun k => G k (F (ps.take i)) (i : Int)) r := by
    intro m
    induction m with
    | zero =>
      intro i h hi
      obtain rfl : i = ps.length := by omega
      rw [List.take_length]
      exact hend
    | succ m ih =>
      intro i h hi
      refine hstep i (by omega) ?_
      have h2 := ih (i + 1) (by omega) (by omega)
      rw [List.take_add_one, List.getElem?_eq_getElem (by omega)] at h2
      simpa using h2
  exact h ps.length 0 rfl (Nat.zero_le _)
theorem rd62 (ps : List S62) (i : Nat) (h : i < ps.length) : rd_T62 ps (i : Int) = ps[i] := by
  unfold rd_T62
  simp [List.getD_eq_getElem?_getD, h]
theorem rd57 (ps : List S57) (i : Nat) (h : i < ps.length) : rd_T57 ps (i : Int) = ps[i] := by
  unfold rd_T57
  simp [List.getD_eq_getElem?_getD, h]
theorem w64_succ {i n : Nat} (h : i < n) (hn : n < 9223372036854775807) : wrap64 ((i : Int) + 1) = ((i + 1 : Nat) : Int) := by rw [w64 (by omega) (by omega)]; omega
theorem w64_pred {d : Nat} (h : d ≤ 100) : wrap64 (((d + 1 : Nat) : Int) - 1) = (d : Int) := by rw [w64 (by omega) (by omega)]; omega
/-! ### lengths -/
theorem commas_cons (x : List UInt8) (ls : List (List UInt8)) : (commas (x :: ls)).length = x.length + (if ls = [] then 0 else 1 + (commas ls).length) := by
  cases ls with
  | nil => rw [commas_one, if_pos rfl]; rfl
  | cons y r =>
    rw [if_neg (by simp)]
    unfold commas Lib.join
    rw [intercalate_cons _ _ _ (by simp)]
    simp only [List.length_append, List.length_singleton]
    omega
theorem commas_mem : ∀ (ls : List (List UInt8)) (x : List UInt8), x ∈ ls → x.length ≤ (commas ls).length
  | [], x, h => absurd h (by simp)
  | y :: ls, x, h => by
    rw [commas_cons]
    rcases List.mem_cons.1 h with rfl | h
    · omega
    · have := commas_mem ls x h
      rw [if_neg (by rintro rfl; exact absurd h (by simp))]
      omega
theorem commas_sum : ∀ (ls : List (List UInt8)), (ls.map List.length).sum ≤ (commas ls).length
  | [] => by simp
  | y :: ls => by
    have := commas_sum ls
    rw [commas_cons, List.map_cons, List.sum_cons]
    by_cases h : ls = []
    · subst h; simp
    · rw [if_neg h]; omega
theorem decDigits_pos (u : Nat) : 1 ≤ (Lib.decDigits u).length := by
  rw [Lib.decDigits]
  by_cases h : u < 10
  · rw [dif_pos h]; simp
  · rw [dif_neg h]; simp
theorem txt_pos (d : Nat) (a : S62) : 1 ≤ (txt d a).length := by
  cases d with
  | zero => exact decDigits_pos _
  | succ d => simp [txt]
theorem count_le (ls : List (List UInt8)) (h : ∀ x ∈ ls, 1 ≤ x.length) : ls.length ≤ (commas ls).length := by
  refine Nat.le_trans ?_ (commas_sum ls)
  induction ls with
  | nil => simp
  | cons x ls ih =>
    have h1 := h x List.mem_cons_self
    have h2 := ih (fun y hy => h y (List.mem_cons_of_mem _ hy))
    simp only [List.length_cons, List.map_cons, List.sum_cons]
    omega
theorem txt_succ_length (d : Nat) (a : S62) : (txt (d + 1) a).length = (commas (a.f1.map (txt d))).length + 2 := by simp [txt]
theorem parts_le (d : Nat) (a : S62) : a.f1.length + 2 ≤ (txt (d + 1) a).length := by
  have h := count_le (a.f1.map (txt d)) (fun x hx => by
    obtain ⟨p, _, rfl⟩ := List.mem_map.1 hx
    exact txt_pos d p)
  rw [List.length_map] at h
  rw [txt_succ_length]
  omega
theorem part_le (d : Nat) (a p : S62) (h : p ∈ a.f1) : (txt d p).length + 2 ≤ (txt (d + 1) a).length := by
  have := commas_mem (a.f1.map (txt d)) (txt d p) (List.mem_map.2 ⟨p, h, rfl⟩)
  rw [txt_succ_length]
  omega
/-- The numbers of an array, in order. -/
def nums : Nat → S62 → List Int
  | 0, a => [a.f0]
  | d + 1, a => a.f1.flatMap (nums d)
theorem nums_le : ∀ (d : Nat) (a : S62), (nums d a).length ≤ (txt d a).length
  | 0, a => by
    have := txt_pos 0 a
    exact this
  | d + 1, a => by
    have h := commas_sum (a.f1.map (txt d))
    rw [txt_succ_length]
    have h2 : ((a.f1).flatMap (nums d)).length ≤ ((a.f1.map (txt d)).map List.length).sum := by
      generalize a.f1 = l
      induction l with
      | nil => simp
      | cons p l ih =>
        have := nums_le d p
        simp only [List.flatMap_cons, List.length_append, List.map_cons, List.sum_cons]
        omega
    show ((a.f1).flatMap (nums d)).length ≤ _
    omega
theorem take_snoc_prefix {α : Type} (ps : List α) (i : Nat) (h : i < ps.length) : ∃ t, ps = (ps.take i ++ [ps[i]]) ++ t := by
  refine ⟨ps.drop (i + 1), ?_⟩
  simp
theorem flat_prefix {α β : Type} (f : α → List β) (ps : List α) (i : Nat) (h : i < ps.length) : ((ps.take i).flatMap f).length + (f ps[i]).length ≤ (ps.flatMap f).length := by
  obtain ⟨t, ht⟩ := take_snoc_prefix ps i h
  have := congrArg (fun l => (List.flatMap f l).length) ht
  simp only [List.flatMap_append, List.length_append, List.flatMap_cons, List.flatMap_nil, List.append_nil] at this
  omega
theorem commas_append_le (xs ys : List (List UInt8)) : (commas xs).length ≤ (commas (xs ++ ys)).length := by
  induction xs with
  | nil => simp [commas_nil]
  | cons x xs ih =>
    rw [List.cons_append, commas_cons, commas_cons]
    by_cases h : xs = []
    · subst h; simp
    · rw [if_neg h, if_neg (by simp [h])]
      omega
theorem commas_prefix (f : S62 → List UInt8) (ps : List S62) (i : Nat) (h : i < ps.length) : (commas ((ps.take i ++ [ps[i]]).map f)).length ≤ (commas (ps.map f)).length := by
  obtain ⟨t, ht⟩ := take_snoc_prefix ps i h
  have := congrArg (List.map f) ht
  rw [List.map_append] at this
  rw [this]
  exact commas_append_le _ _
/-! ### numbers -/
theorem impl_nums : ∀ (d : Nat) (a : S62), d ≤ 100 → VA d a → (txt d a).length ≤ 4000000000000 → Ev (fun k => impl_arr_numbers.f k a.f0 a.f1 (d : Int)) (nums d a)
  | 0, a, _, _, _ => Ev.step (f := fun _ => _) (fun k => by rw [impl_arr_numbers.f, if_pos (show ((0 : Nat) : Int) = 0 from rfl)]; rfl) (Ev.now _)
  | d + 1, a, hd, hv, hl => by
    refine Ev.step (f := fun k => impl_arr_numbers.l0 k ((d + 1 : Nat) : Int) [] a.f1 (a.f1.length : Int) 0) (fun k => by rw [impl_arr_numbers.f, if_neg (by omega)]) ?_
    have hn := nums_le (d + 1) a
    have hp := parts_le d a
    refine Ev_front a.f1 (fun k acc i => impl_arr_numbers.l0 k ((d + 1 : Nat) : Int) acc a.f1 (a.f1.length : Int) i) (fun l => l.flatMap (nums d)) _ (fun i h hnext => ?_) ?_
    · have hpl := part_le d a _ (List.getElem_mem h)
      have ih := impl_nums d a.f1[i] (by omega) (hv.2 _ (List.getElem_mem h)) (by omega)
      have hfl := flat_prefix (nums d) a.f1 i h
      have hb : ((a.f1.take i).flatMap (nums d)).length + (nums d a.f1[i]).length < 17592186044416 := by
        have : ((a.f1).flatMap (nums d)).length ≤ _ := hn
        omega
      refine Ev.step (f := fun k => (impl_arr_numbers.f k a.f1[i].f0 a.f1[i].f1 (d : Int)).bind fun t => (if ((a.f1.take i).flatMap (nums d)).length + t.length < 17592186044416 then (impl_arr_numbers.l0 k ((d + 1 : Nat) : Int) ((a.f1.take i).flatMap (nums d) ++ t) a.f1 (a.f1.length : Int) ((i + 1 : Nat) : Int)) else none)) (fun k => ?_) (Ev.bind ih ?_)
      · rw [impl_arr_numbers.l0, if_pos (by omega), if_pos (by omega), if_pos (by omega), rd62 _ _ h, w64_pred (by omega), w64_succ h (by omega)]
      · refine Ev.congr (fun k => if_pos hb) ?_
        rw [List.flatMap_append, List.flatMap_cons, List.flatMap_nil, List.append_nil] at hnext
        exact hnext
    · refine Ev.step (f := fun _ => _) (fun k => ?_) (Ev.now _)
      rw [impl_arr_numbers.l0, if_neg (by omega)]
      rfl
theorem spec_nums : ∀ (d : Nat) (n : S57), d ≤ 100 → VA d (tr n) → (txt d (tr n)).length ≤ 4000000000000 → Ev (fun k => spec_l1Numbers.f k n.f0 n.f1 (d : Int)) (nums d (tr n))
  | 0, n, _, _, _ => Ev.step (f := fun _ => _) (fun k => by rw [spec_l1Numbers.f, if_pos (show ((0 : Nat) : Int) = 0 from rfl)]; rw [nums, tr_f0]) (Ev.now _)
  | d + 1, n, hd, hv, hl => by
    refine Ev.step (f := fun k => spec_l1Numbers.l0 k ((d + 1 : Nat) : Int) [] n.f1 (n.f1.length : Int) 0) (fun k => by rw [spec_l1Numbers.f, if_neg (by omega)]) ?_
    have hn := nums_le (d + 1) (tr n)
    have hp := parts_le d (tr n)
    have hv2 : ∀ p ∈ n.f1, VA d (tr p) := fun p hp => hv.2 _ (by rw [tr_f1, trs_map]; exact List.mem_map.2 ⟨p, hp, rfl⟩)
    have hpl : ∀ p ∈ n.f1, (txt d (tr p)).length + 2 ≤ (txt (d + 1) (tr n)).length := fun p hp => part_le d (tr n) (tr p) (by rw [tr_f1, trs_map]; exact List.mem_map.2 ⟨p, hp, rfl⟩)
    have hnn : nums (d + 1) (tr n) = n.f1.flatMap (fun p => nums d (tr p)) := by
      show (tr n).f1.flatMap (nums d) = _
      rw [tr_f1, trs_map, List.flatMap_map]
    rw [hnn] at hn ⊢
    rw [tr_f1, trs_length] at hp
    refine Ev_front n.f1 (fun k acc i => spec_l1Numbers.l0 k ((d + 1 : Nat) : Int) acc n.f1 (n.f1.length : Int) i) (fun l => l.flatMap (fun p => nums d (tr p))) _ (fun i h hnext => ?_) ?_
    · have hpi := hpl _ (List.getElem_mem h)
      have ih := spec_nums d n.f1[i] (by omega) (hv2 _ (List.getElem_mem h)) (by omega)
      have hfl := flat_prefix (fun p => nums d (tr p)) n.f1 i h
      have hb : ((n.f1.take i).flatMap (fun p => nums d (tr p))).length + (nums d (tr n.f1[i])).length < 17592186044416 := by omega
      refine Ev.step (f := fun k => (spec_l1Numbers.f k n.f1[i].f0 n.f1[i].f1 (d : Int)).bind fun t => (if ((n.f1.take i).flatMap (fun p => nums d (tr p))).length + t.length < 17592186044416 then (spec_l1Numbers.l0 k ((d + 1 : Nat) : Int) ((n.f1.take i).flatMap (fun p => nums d (tr p)) ++ t) n.f1 (n.f1.length : Int) ((i + 1 : Nat) : Int)) else none)) (fun k => ?_) (Ev.bind ih ?_)
      · rw [spec_l1Numbers.l0, if_pos (by omega), if_pos (by omega), if_pos (by omega), rd57 _ _ h, w64_pred (by omega), w64_succ h (by omega)]
      · refine Ev.congr (fun k => if_pos hb) ?_
        rw [List.flatMap_append, List.flatMap_cons, List.flatMap_nil, List.append_nil] at hnext
        exact hnext
    · refine Ev.step (f := fun _ => _) (fun k => ?_) (Ev.now _)
      rw [spec_l1Numbers.l0, if_neg (by omega)]
/-! ### texts -/
theorem itoa_nat (u : Nat) : Lib.itoa (u : Int) = Lib.decDigits u := by
  unfold Lib.itoa
  rw [if_neg (by omega)]
  rfl
/-- The program's text of an array whose parts' texts are known. -/
theorem impl_text_top (d : Nat) (hd : d ≤ 100) (n0 : Int) (ps : List S62) (hc : ps.length < 8796093022208) (hl : (commas (ps.map (txt d))).length ≤ 140737488355328)
    (ih : ∀ p ∈ ps, Ev (fun k => impl_arr_text.f k p.f0 p.f1 (d : Int)) (ba (txt d p))) : Ev (fun k => impl_arr_text.f k n0 ps ((d + 1 : Nat) : Int)) (ba (txt (d + 1) ⟨n0, ps⟩)) := by
  refine Ev.step (f := fun k => impl_arr_text.l0 k ((d + 1 : Nat) : Int) [] ps (ps.length : Int) 0) (fun k => by rw [impl_arr_text.f, if_neg (by omega)]) ?_
  refine Ev_front ps (fun k acc i => impl_arr_text.l0 k ((d + 1 : Nat) : Int) acc ps (ps.length : Int) i) (fun l => l.map (fun p => ba (txt d p))) _ (fun i h hnext => ?_) ?_
  · refine Ev.step (f := fun k => (impl_arr_text.f k ps[i].f0 ps[i].f1 (d : Int)).bind fun t => (if ((ps.take i).map (fun p => ba (txt d p))).length < 8796093022208 then (impl_arr_text.l0 k ((d + 1 : Nat) : Int) ((ps.take i).map (fun p => ba (txt d p)) ++ [t]) ps (ps.length : Int) ((i + 1 : Nat) : Int)) else none)) (fun k => ?_) (Ev.bind (ih _ (List.getElem_mem h)) ?_)
    · rw [impl_arr_text.l0, if_pos (by omega), if_pos (by omega), if_pos (by omega), rd62 _ _ h, w64_pred (by omega), w64_succ h (by omega)]
    · refine Ev.congr (fun k => if_pos ?_) ?_
      · rw [List.length_map, List.length_take]
        omega
      · rw [List.map_append] at hnext
        exact hnext
  · have e : (ps.map (fun p => ba (txt d p))).map (fun b => b.data.toList) = ps.map (txt d) := by
      rw [List.map_map]
      exact List.map_congr_left (fun p _ => ba_data _)
    have hj : strings_Join.f (ps.map (fun p => ba (txt d p))) ⟨#[44]⟩ = some (ba (commas (ps.map (txt d)))) := by
      unfold strings_Join.f
      rw [if_pos (by rw [List.length_map]; omega), e]
      exact if_pos hl
    refine Ev.step (f := fun _ => _) (fun k => ?_) (Ev.now _)
    rw [impl_arr_text.l0, if_neg (by omega), hj, Option.bind_some]
    have e1 : (⟨#[91]⟩ : ByteArray) = ba [91] := rfl
    have e2 : (⟨#[93]⟩ : ByteArray) = ba [93] := rfl
    rw [e1, e2, ba_append, ba_append, ba_size, ba_size, if_pos (by omega), if_pos (by simp only [List.length_append, List.length_singleton]; omega)]
    congr 1
theorem impl_text : ∀ (d : Nat) (a : S62), d ≤ 100 → VA d a → (txt d a).length ≤ 4000000000000 → Ev (fun k => impl_arr_text.f k a.f0 a.f1 (d : Int)) (ba (txt d a))
  | 0, a, _, hv, _ => by
    obtain ⟨h0, h1, _⟩ := hv
    refine Ev.step (f := fun _ => _) (fun k => ?_) (Ev.now _)
    obtain ⟨u, hu⟩ : ∃ u : Nat, a.f0 = (u : Int) := ⟨a.f0.toNat, by omega⟩
    rw [impl_arr_text.f, if_pos (show ((0 : Nat) : Int) = 0 from rfl)]
    unfold strconv_Itoa.f
    rw [if_pos (by omega), if_pos (by omega), hu, itoa_nat]
    show some _ = some (ba (Lib.decDigits a.f0.toNat))
    rw [hu]
    rfl
  | d + 1, a, hd, hv, hl => by
    have hp := parts_le d a
    have hs := txt_succ_length d a
    exact impl_text_top d (by omega) a.f0 a.f1 (by omega) (by omega) (fun p hp => impl_text d p (by omega) (hv.2 p hp) (by have := part_le d a p hp; omega))
/-- The reference's text of an array whose parts' texts are known. -/
theorem spec_text_top (d : Nat) (hd : d ≤ 100) (n0 : Int) (ps : List S57) (hc : ps.length < 9223372036854775807) (hl : (commas ((trs ps).map (txt d))).length ≤ 9223372036854775800)
    (ih : ∀ p ∈ ps, Ev (fun k => spec_l1Text.f k p.f0 p.f1 (d : Int)) (ba (txt d (tr p)))) : Ev (fun k => spec_l1Text.f k n0 ps ((d + 1 : Nat) : Int)) (ba (txt (d + 1) ⟨n0, trs ps⟩)) := by
  refine Ev.step (f := fun k => spec_l1Text.l0 k ((d + 1 : Nat) : Int) (ba (91 :: commas (([] : List S57).map (fun p => txt d (tr p))))) ps (ps.length : Int) 0) (fun k => by rw [spec_l1Text.f, if_neg (by omega)]; rfl) ?_
  have hm : (trs ps).map (txt d) = ps.map (fun p => txt d (tr p)) := by rw [trs_map, List.map_map]; rfl
  rw [hm] at hl
  refine Ev_front ps (fun k acc i => spec_l1Text.l0 k ((d + 1 : Nat) : Int) acc ps (ps.length : Int) i) (fun l => ba (91 :: commas (l.map (fun p => txt d (tr p))))) _ (fun i h hnext => ?_) ?_
  · have hih := ih _ (List.getElem_mem h)
    have hle : (commas ((ps.take i ++ [ps[i]]).map (fun p => txt d (tr p)))).length ≤ (commas (ps.map (fun p => txt d (tr p)))).length := by
      obtain ⟨t, ht⟩ := take_snoc_prefix ps i h
      have := congrArg (List.map (fun p => txt d (tr p))) ht
      rw [List.map_append] at this
      rw [this]
      exact commas_append_le _ _
    rw [List.map_append] at hle
    cases i with
    | zero =>
      refine Ev.step (f := fun k => (spec_l1Text.f k (ps[0]).f0 (ps[0]).f1 (d : Int)).bind fun t => (if (ba (91 :: commas ((ps.take 0).map (fun p => txt d (tr p))))).size + t.size ≤ 9223372036854775807 then (spec_l1Text.l0 k ((d + 1 : Nat) : Int) (ba (91 :: commas ((ps.take 0).map (fun p => txt d (tr p)))) ++ t) ps (ps.length : Int) ((0 + 1 : Nat) : Int)) else none)) (fun k => ?_) (Ev.bind hih ?_)
      · rw [spec_l1Text.l0, if_pos (by omega), if_pos (by omega), if_pos (by omega), if_neg (by omega), rd57 _ _ h, w64_pred (by omega), w64_succ h (by omega)]
      · refine Ev.congr (fun k => if_pos ?_) ?_
        · simp only [List.take_zero, List.map_nil, List.nil_append, List.map_cons, commas_one, commas_nil] at hle ⊢
          rw [ba_size, ba_size]
          simp only [List.length_cons, List.length_nil]
          omega
        · simp only [List.take_zero, List.map_nil, List.nil_append, List.map_cons, commas_one, commas_nil] at hnext ⊢
          rw [ba_append]
          exact hnext
    | succ j =>
      have hne : (ps.take (j + 1)).map (fun p => txt d (tr p)) ≠ [] := by
        intro h0
        have := congrArg List.length h0
        rw [List.length_map, List.length_take] at this
        simp only [List.length_nil] at this
        omega
      have hsn : commas ((ps.take (j + 1) ++ [ps[j + 1]]).map (fun p => txt d (tr p))) = commas ((ps.take (j + 1)).map (fun p => txt d (tr p))) ++ 44 :: txt d (tr ps[j + 1]) := by
        rw [List.map_append]
        exact commas_snoc _ _ hne
      rw [List.map_append] at hsn
      rw [hsn, List.length_append, List.length_cons] at hle
      have e1 : (⟨#[44]⟩ : ByteArray) = ba [44] := rfl
      refine Ev.step (f := fun k => (spec_l1Text.f k (ps[j + 1]).f0 (ps[j + 1]).f1 (d : Int)).bind fun t => (if (ba (91 :: commas ((ps.take (j + 1)).map (fun p => txt d (tr p)))) ++ ba [44]).size + t.size ≤ 9223372036854775807 then (spec_l1Text.l0 k ((d + 1 : Nat) : Int) ((ba (91 :: commas ((ps.take (j + 1)).map (fun p => txt d (tr p)))) ++ ba [44]) ++ t) ps (ps.length : Int) ((j + 1 + 1 : Nat) : Int)) else none)) (fun k => ?_) (Ev.bind hih ?_)
      · rw [spec_l1Text.l0, if_pos (by omega), if_pos (by omega), if_pos (by omega), if_pos (by omega), e1, if_pos (by rw [ba_size]; simp only [List.length_cons]; omega), rd57 _ _ h, w64_pred (by omega), w64_succ h (by omega)]
      · refine Ev.congr (fun k => if_pos ?_) ?_
        · rw [ba_append, ba_size, ba_size]
          simp only [List.length_append, List.length_cons, List.length_nil]
          omega
        · rw [List.map_append, hsn] at hnext
          rw [ba_append, ba_append]
          have e2 : (91 :: commas ((ps.take (j + 1)).map (fun p => txt d (tr p))) ++ [44]) ++ txt d (tr ps[j + 1]) = 91 :: (commas ((ps.take (j + 1)).map (fun p => txt d (tr p))) ++ 44 :: txt d (tr ps[j + 1])) := by simp
          rw [e2]
          exact hnext
  · refine Ev.step (f := fun _ => _) (fun k => ?_) (Ev.now _)
    have e2 : (⟨#[93]⟩ : ByteArray) = ba [93] := rfl
    rw [spec_l1Text.l0, if_neg (by omega), e2, if_pos (by rw [ba_size]; simp only [List.length_cons]; omega), ba_append]
    congr 1
    simp [txt, hm]
theorem spec_text : ∀ (d : Nat) (n : S57), d ≤ 100 → VA d (tr n) → (txt d (tr n)).length ≤ 4000000000000 → Ev (fun k => spec_l1Text.f k n.f0 n.f1 (d : Int)) (ba (txt d (tr n)))
  | 0, n, _, hv, _ => by
    obtain ⟨h0, h1, _⟩ := hv
    rw [tr_f0] at h0 h1
    obtain ⟨u, hu⟩ : ∃ u : Nat, n.f0 = (u : Int) := ⟨n.f0.toNat, by omega⟩
    have hdec := l13Dec_nat u (by omega)
    have e : txt 0 (tr n) = Lib.itoa (u : Int) := by
      rw [itoa_nat]
      show Lib.decDigits (tr n).f0.toNat = _
      rw [tr_f0, hu]
      rfl
    rw [e]
    refine Ev.step (f := fun k => (spec_l13Dec.f k n.f0).bind fun t => some t) (fun k => by rw [spec_l1Text.f, if_pos (show ((0 : Nat) : Int) = 0 from rfl)]) ?_
    rw [hu]
    exact Ev.bind hdec (Ev.now _)
  | d + 1, n, hd, hv, hl => by
    have hp := parts_le d (tr n)
    have hs := txt_succ_length d (tr n)
    rw [tr_f1] at hs hp
    rw [trs_length] at hp
    have := spec_text_top d (by omega) n.f0 n.f1 (by omega) (by omega) (fun p hp => spec_text d p (by omega) (hv.2 _ (by rw [tr_f1, trs_map]; exact List.mem_map.2 ⟨p, hp, rfl⟩)) (by have := part_le d (tr n) (tr p) (by rw [tr_f1, trs_map]; exact List.mem_map.2 ⟨p, hp, rfl⟩); omega))
    have e : (tr n) = ⟨n.f0, trs n.f1⟩ := by cases n; rfl
    rw [e]
    exact this
end Go.Proofs.YtdhfdepnleioiaaDoor.PA
