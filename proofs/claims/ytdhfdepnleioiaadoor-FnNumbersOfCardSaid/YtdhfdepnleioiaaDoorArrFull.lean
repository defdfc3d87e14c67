/-
The text of every valid array is read back: the program's reader takes just that array, and leaves what is behind it. Plain laws on the printed functions; no memory in them.
-/
import Derived.Test.YtdhfdepnleioiaaDoorArrText
import Derived.Test.YtdhfdepnleioiaaDoorFA16
namespace Go.Proofs.YtdhfdepnleioiaaDoor.PA
open Go Go.RowKit Go.Proofs.YtdhfdepnleioiaaDoorW.PrintWords Go.Proofs.YtdhfdepnleioiaaDoorW.PrintLast Go.Proofs.YtdhfdepnleioiaaDoor.Dig

/-- What may stand behind an array's text: no digit. -/
def Stops (rest : List UInt8) : Prop := ∀ c ∈ rest.head?, isDig c = false
theorem ba_tail (c : UInt8) (l : List UInt8) : (ba (c :: l)).extract 1 (ba (c :: l)).size = ba l := by
  apply ByteArray.ext
  rw [ByteArray.data_extract, ba_size]
  apply Array.toList_inj.1
  rw [Array.toList_extract]
  simp [ba, List.extract]
theorem ba_take (l m : List UInt8) : (ba (l ++ m)).extract 0 l.length = ba l := by
  apply ByteArray.ext
  rw [ByteArray.data_extract]
  apply Array.toList_inj.1
  rw [Array.toList_extract]
  simp [ba, List.extract]
theorem ba_drop (l m : List UInt8) : (ba (l ++ m)).extract l.length (ba (l ++ m)).size = ba m := by
  apply ByteArray.ext
  rw [ByteArray.data_extract, ba_size]
  apply Array.toList_inj.1
  rw [Array.toList_extract]
  simp [ba, List.extract]
theorem ba_nil (l : List UInt8) : (ba l).toList = ([] : List UInt8) ↔ l = [] := by
  rw [ByteArray.toList_eq, ba_data]
theorem bt_ba (l : List UInt8) (i : Nat) (h : i < l.length) : bt (ba l) (i : Int) = ((l[i]'h).toNat : Int) := by
  rw [bt_eq _ _ (by rw [ba_size]; exact h)]
  rfl
theorem bt_ba0 (c : UInt8) (l : List UInt8) : bt (ba (c :: l)) 0 = (c.toNat : Int) := bt_ba (c :: l) 0 (by simp)
theorem digs_ba (l rest : List UInt8) (h : ∀ c ∈ l, isDig c = true) (hs : Stops rest) : Digs (ba (l ++ rest)) 0 l.length where
  le := by rw [ba_size, List.length_append]; omega
  all := fun i hi => by
    have hlt : 0 + i < (l ++ rest).length := by rw [List.length_append]; omega
    have hg : (l ++ rest)[0 + i]'hlt = l[i] := by simp [List.getElem_append_left hi]
    have := isDig_iff.1 (h l[i] (List.getElem_mem hi))
    unfold isD
    rw [bt_ba _ _ hlt, hg]
    omega
  stop := fun hi hd => by
    rw [ba_size, List.length_append] at hi
    have hlt : 0 + l.length < (l ++ rest).length := by rw [List.length_append]; omega
    have hr : 0 < rest.length := by omega
    have hg : (l ++ rest)[0 + l.length]'hlt = rest[0] := by simp
    unfold isD at hd
    rw [bt_ba _ _ hlt, hg] at hd
    have h2 := hs rest[0] (by simp [List.head?_eq_getElem?, hr])
    have h3 : isDig rest[0] = true := isDig_iff.2 ⟨by omega, by omega⟩
    rw [h3] at h2
    cases h2
theorem numOf_dec (u : Nat) (h : u ≤ 10006) : numOf (Lib.decDigits u) = some (u : Int) := by
  unfold numOf
  rw [dec_decDigits, if_pos ⟨rfl, by omega⟩]
theorem txt_head (d : Nat) (a : S62) : ∃ c t, txt d a = c :: t ∧ c.toNat ≠ 93 := by
  cases d with
  | zero =>
    have h := decDigits_dig a.f0.toNat
    have hp := decDigits_pos a.f0.toNat
    show ∃ c t, Lib.decDigits a.f0.toNat = c :: t ∧ _
    generalize Lib.decDigits a.f0.toNat = l at h hp
    match l, h, hp with
    | [], _, hp => exact absurd hp (by simp)
    | c :: t, h, _ =>
      have := isDig_iff.1 (h c List.mem_cons_self)
      exact ⟨c, t, rfl, by omega⟩
  | succ d => exact ⟨91, _, rfl, by decide⟩
/-- What stands behind the first of some parts. -/
def tail (ls : List (List UInt8)) (rest : List UInt8) : List UInt8 := if ls = [] then 93 :: rest else 44 :: (commas ls ++ 93 :: rest)
theorem commas_tail (x : List UInt8) (ls : List (List UInt8)) (rest : List UInt8) : commas (x :: ls) ++ 93 :: rest = x ++ tail ls rest := by
  unfold tail
  by_cases h : ls = []
  · subst h
    rw [if_pos rfl, commas_one]
  · rw [if_neg h]
    unfold commas Lib.join
    rw [intercalate_cons _ _ _ h]
    simp
theorem tail_stops (ls : List (List UInt8)) (rest : List UInt8) : Stops (tail ls rest) := by
  intro c hc
  unfold tail at hc
  by_cases h : ls = []
  · rw [if_pos h] at hc
    simp at hc
    subst hc
    rfl
  · rw [if_neg h] at hc
    simp at hc
    subst hc
    rfl
theorem s62_eta (p : S62) : (⟨p.f0, p.f1⟩ : S62) = p := by cases p; rfl
theorem read_loop (d : Nat) (hd : d ≤ 10) (rest : List UInt8)
    (ih : ∀ (a : S62) (r : List UInt8), VA d a → Stops r → (txt d a ++ r).length ≤ 1000 → Ev (fun k => impl_readArr.f k (ba (txt d a ++ r)) (d : Int)) (a.f0, a.f1, ba r, true)) :
    ∀ (ps : List S62) (p : S62) (acc : List S62), (∀ q ∈ p :: ps, VA d q) → (commas ((p :: ps).map (txt d)) ++ 93 :: rest).length ≤ 1000 → acc.length + ps.length ≤ 100000 →
      Ev (fun k => impl_readArr.l1 k (ba (commas ((p :: ps).map (txt d)) ++ 93 :: rest)) ((d + 1 : Nat) : Int) 0 acc) (0, acc ++ p :: ps, ba rest, true) := by
  intro ps
  induction ps with
  | nil =>
    intro p acc hva hl hacc
    obtain ⟨c, t, hc, hn⟩ := txt_head d p
    have hp := ih p (tail [] rest) (hva p List.mem_cons_self) (tail_stops _ _) (by rw [← commas_tail]; exact hl)
    rw [List.map_cons, List.map_nil, commas_tail] at hl ⊢
    have hne : ¬ (ba (txt d p ++ tail [] rest)).toList = [] := by rw [ba_nil, hc]; simp
    have hsz : 0 < ((ba (txt d p ++ tail [] rest)).size : Int) := by rw [ba_size, hc]; simp only [List.cons_append, List.length_cons]; omega
    have hb0 : ¬ bt (ba (txt d p ++ tail [] rest)) 0 = 93 := by rw [hc, List.cons_append, bt_ba0]; omega
    refine Ev.step (f := fun k => impl_readArr.j4 k (ba (txt d p ++ tail [] rest)) ((d + 1 : Nat) : Int) true 0 acc) (fun k => by rw [impl_readArr.l1, if_neg hne, if_pos hsz, if_neg hb0]) ?_
    refine Ev.step (f := _) (fun k => by rw [impl_readArr.j4, if_pos rfl, w64_pred (by omega)]) (Ev.bind hp ?_)
    have ht : tail [] rest = 93 :: rest := rfl
    rw [ht]
    have hne2 : ¬ (ba (93 :: rest)).toList = [] := by rw [ba_nil]; simp
    have hsz2 : 0 < ((ba (93 :: rest)).size : Int) := by rw [ba_size]; simp only [List.length_cons]; omega
    have hsz3 : 1 ≤ ((ba (93 :: rest)).size : Int) := by omega
    have hb2 : bt (ba (93 :: rest)) 0 = 93 := by rw [bt_ba0]; rfl
    have hb3 : ¬ bt (ba (93 :: rest)) 0 = 44 := by rw [hb2]; decide
    have hfalse : (bt (ba (93 :: rest)) 0 != 93) = false := by rw [hb2]; rfl
    simp only [if_true, hne2, if_false, hsz2, hb3, hfalse]
    refine Ev.step (f := fun _ => _) (fun k => ?_) (Ev.now _)
    rw [impl_readArr.j5, if_neg (by decide), if_pos (by omega), Option.bind_some, if_pos hsz2, if_pos hb2, if_pos hsz3, ba_tail, s62_eta]
  | cons p2 ps ihp =>
    intro p acc hva hl hacc
    obtain ⟨c, t, hc, hn⟩ := txt_head d p
    have hl2 := hl
    rw [List.map_cons, commas_tail] at hl2
    have hp := ih p (tail ((p2 :: ps).map (txt d)) rest) (hva p List.mem_cons_self) (tail_stops _ _) hl2
    rw [List.map_cons, commas_tail]
    have ht : tail ((p2 :: ps).map (txt d)) rest = 44 :: (commas ((p2 :: ps).map (txt d)) ++ 93 :: rest) := by
      unfold tail
      rw [if_neg (by simp)]
    have hnext := ihp p2 (acc ++ [p]) (fun q hq => hva q (List.mem_cons_of_mem _ hq)) (by
      rw [ht] at hl2
      simp only [List.length_append, List.length_cons] at hl2 ⊢
      omega) (by simp only [List.length_append, List.length_cons, List.length_nil] at hacc ⊢; omega)
    rw [List.append_assoc, List.cons_append, List.nil_append] at hnext
    rw [ht] at hp hl2 ⊢
    generalize commas ((p2 :: ps).map (txt d)) ++ 93 :: rest = z at hp hl2 hnext ⊢
    have hne : ¬ (ba (txt d p ++ 44 :: z)).toList = [] := by rw [ba_nil, hc]; simp
    have hsz : 0 < ((ba (txt d p ++ 44 :: z)).size : Int) := by rw [ba_size, hc]; simp only [List.cons_append, List.length_cons]; omega
    have hb0 : ¬ bt (ba (txt d p ++ 44 :: z)) 0 = 93 := by rw [hc, List.cons_append, bt_ba0]; omega
    refine Ev.step (f := fun k => impl_readArr.j4 k (ba (txt d p ++ 44 :: z)) ((d + 1 : Nat) : Int) true 0 acc) (fun k => by rw [impl_readArr.l1, if_neg hne, if_pos hsz, if_neg hb0]) ?_
    refine Ev.step (f := _) (fun k => by rw [impl_readArr.j4, if_pos rfl, w64_pred (by omega)]) (Ev.bind hp ?_)
    have hne2 : ¬ (ba (44 :: z)).toList = [] := by rw [ba_nil]; simp
    have hsz2 : 0 < ((ba (44 :: z)).size : Int) := by rw [ba_size]; simp only [List.length_cons]; omega
    have hsz3 : 1 ≤ ((ba (44 :: z)).size : Int) := by omega
    have hb2 : bt (ba (44 :: z)) 0 = 44 := by rw [bt_ba0]; rfl
    have hb3 : ¬ bt (ba (44 :: z)) 0 = 93 := by rw [hb2]; decide
    simp only [if_true, hne2, if_false, hsz2, hb2]
    refine Ev.step (fun k => ?_) hnext
    rw [impl_readArr.j5, if_neg (by decide), if_pos (by simp only [List.length_cons] at hacc; omega), Option.bind_some, if_pos hsz2, if_neg hb3, if_pos hsz3, ba_tail, s62_eta]
theorem read_full : ∀ (d : Nat) (a : S62) (rest : List UInt8), d ≤ 10 → VA d a → Stops rest → (txt d a ++ rest).length ≤ 1000 → Ev (fun k => impl_readArr.f k (ba (txt d a ++ rest)) (d : Int)) (a.f0, a.f1, ba rest, true)
  | 0, a, rest, _, hv, hs, hl => by
    obtain ⟨h0, h1, h2⟩ := hv
    have hdg := digs_ba (txt 0 a) rest (decDigits_dig a.f0.toNat) hs
    have h := readArr_num (ba (txt 0 a ++ rest)) (by rw [ba_size]; exact hl) _ hdg
    rw [ba_take, ba_data, ba_drop] at h
    have hn : numOf (txt 0 a) = some a.f0 := by
      have := numOf_dec a.f0.toNat (by omega)
      show numOf (Lib.decDigits a.f0.toNat) = _
      rw [this]
      congr 1
      omega
    rw [hn] at h
    rw [h2]
    exact h
  | d + 1, a, rest, hd, hv, hs, hl => by
    have ih := fun (p : S62) (r : List UInt8) (h1 : VA d p) (h2 : Stops r) (h3 : (txt d p ++ r).length ≤ 1000) => read_full d p r (by omega) h1 h2 h3
    have hz : ¬ (((d + 1 : Nat) : Int) = 0) := by omega
    obtain ⟨hv0, hvp⟩ := hv
    have e : txt (d + 1) a ++ rest = 91 :: (commas (a.f1.map (txt d)) ++ 93 :: rest) := by simp [txt]
    rw [e] at hl ⊢
    rw [hv0]
    have hne : ¬ (ba (91 :: (commas (a.f1.map (txt d)) ++ 93 :: rest))).toList = [] := by rw [ba_nil]; simp
    have hsz : 0 < ((ba (91 :: (commas (a.f1.map (txt d)) ++ 93 :: rest))).size : Int) := by rw [ba_size]; simp only [List.length_cons]; omega
    have hsz1 : 1 ≤ ((ba (91 :: (commas (a.f1.map (txt d)) ++ 93 :: rest))).size : Int) := by omega
    have hb : (bt (ba (91 :: (commas (a.f1.map (txt d)) ++ 93 :: rest))) 0 != 91) = false := by rw [bt_ba0]; rfl
    refine Ev.step (f := fun k => impl_readArr.j2 k (ba (91 :: (commas (a.f1.map (txt d)) ++ 93 :: rest))) ((d + 1 : Nat) : Int) false) (fun k => by rw [impl_readArr.f, if_neg hz, if_neg hne, if_pos hsz, hb]) ?_
    refine Ev.step (f := fun k => impl_readArr.l1 k (ba (commas (a.f1.map (txt d)) ++ 93 :: rest)) ((d + 1 : Nat) : Int) 0 []) (fun k => by rw [impl_readArr.j2, if_neg (by decide), if_pos hsz1, ba_tail]) ?_
    generalize a.f1 = l at hvp hl
    cases l with
    | nil =>
      have e2 : commas (([] : List S62).map (txt d)) ++ 93 :: rest = 93 :: rest := rfl
      rw [e2]
      have hne2 : ¬ (ba (93 :: rest)).toList = [] := by rw [ba_nil]; simp
      have hsz2 : 0 < ((ba (93 :: rest)).size : Int) := by rw [ba_size]; simp only [List.length_cons]; omega
      have hsz3 : 1 ≤ ((ba (93 :: rest)).size : Int) := by omega
      have hb2 : bt (ba (93 :: rest)) 0 = 93 := by rw [bt_ba0]; rfl
      refine Ev.step (f := fun k => impl_readArr.j4 k (ba (93 :: rest)) ((d + 1 : Nat) : Int) false 0 []) (fun k => by rw [impl_readArr.l1, if_neg hne2, if_pos hsz2, if_pos hb2]; rfl) ?_
      refine Ev.step (f := fun _ => _) (fun k => ?_) (Ev.now _)
      rw [impl_readArr.j4, if_neg (by decide), if_neg hne2, if_pos hsz3, ba_tail]
    | cons p ps =>
      have hps := count_le ((p :: ps).map (txt d)) (fun x hx => by
        obtain ⟨q, _, rfl⟩ := List.mem_map.1 hx
        exact txt_pos d q)
      rw [List.length_map] at hps
      simp only [List.length_append, List.length_cons] at hl hps
      exact read_loop d (by omega) rest ih ps p [] hvp (by simp only [List.length_append, List.length_cons]; omega) (by simp only [List.length_nil]; omega)
theorem arr_full (d : Nat) (a : S62) (hd : d ≤ 3) (hv : VA d a) (hl : (txt d a).length ≤ 400) : Ev (fun k => impl_arrOf.f k (ba (txt d a)) (d : Int)) (a.f0, a.f1, true) := by
  have h := read_full d a [] (by omega) hv (fun c hc => by simp at hc) (by rw [List.append_nil]; omega)
  rw [List.append_nil] at h
  refine Ev.congr (fun k => by unfold impl_arrOf.f; rw [if_neg (by omega), if_neg (by omega), if_neg (by rw [ba_size]; omega)]) (Ev.bind h ?_)
  have he : ((ba []).toList == ([] : List UInt8)) = true := by rw [beq_iff_eq, ba_nil]
  simp only [if_true, he]
  exact Ev.now _
theorem valid_full (d : Nat) (a : S62) (hd : d ≤ 3) (hv : VA d a) (hl : (txt d a).length ≤ 400) : Ev (fun k => impl_ArrayValid.f k (ba (txt d a)) (d : Int)) true :=
  Ev.congr (fun k => by unfold impl_ArrayValid.f; rfl) (Ev.bind (arr_full d a hd hv hl) (Ev.now _))
end Go.Proofs.YtdhfdepnleioiaaDoor.PA
