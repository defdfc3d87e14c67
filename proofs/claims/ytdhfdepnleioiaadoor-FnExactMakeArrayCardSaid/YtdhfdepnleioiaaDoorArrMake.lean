/-
What the program's MakeArray and the reference's l1Told do with parts that are all valid. Plain laws on the printed functions; no memory in them.
-/
import Derived.Test.YtdhfdepnleioiaaDoorArrFull
import Derived.Test.YtdhfdepnleioiaaDoorArrPart0
import Derived.Test.YtdhfdepnleioiaaDoorFA40
import Derived.Test.YtdhfdepnleioiaaDoorFA54
namespace Go.Proofs.YtdhfdepnleioiaaDoor.PA
open Go Go.RowKit Go.Proofs.YtdhfdepnleioiaaDoorW.PrintWords Go.Proofs.YtdhfdepnleioiaaDoorW.PrintLast

theorem rdS (l : List ByteArray) (i : Nat) (h : i < l.length) : rdOf ByteArray.empty l (i : Int) = l[i] := by
  unfold rdOf
  simp [List.getD_eq_getElem?_getD, h]
/-- What the program's MakeArray does with parts that are all valid. -/
def made (e : Nat) (ps : List S62) : ByteArray × Bool := if (txt (e + 1) ⟨0, ps⟩).length > 400 then (⟨#[]⟩, false) else (ba (txt (e + 1) ⟨0, ps⟩), true)
theorem impl_made (e : Nat) (he : e + 1 ≤ 3) (ps : List S62) (hv : ∀ p ∈ ps, VA e p ∧ (txt e p).length ≤ 400) (hc : ps.length ≤ 100000000) (hl : (commas (ps.map (txt e))).length ≤ 140737488355328) :
    Ev (fun k => impl_MakeArray.f k (ps.map (fun p => ba (txt e p))) ((e + 1 : Nat) : Int)) (made e ps) := by
  refine Ev.congr (f := fun k => impl_MakeArray.j0 k (ps.map (fun p => ba (txt e p))) ((e + 1 : Nat) : Int) false) (fun k => ?_) ?_
  · unfold impl_MakeArray.f
    rw [if_neg (by omega), decide_eq_false (by omega)]
  refine Ev.step (f := fun k => impl_MakeArray.l0 k (ps.map (fun p => ba (txt e p))) ((e + 1 : Nat) : Int) (ps.map (fun p => ba (txt e p))) ((ps.map (fun p => ba (txt e p))).length : Int) 0) (fun k => by rw [impl_MakeArray.j0, if_neg (by decide)]) ?_
  refine Ev_front (ps.map (fun p => ba (txt e p))) (fun k (_ : Unit) i => impl_MakeArray.l0 k (ps.map (fun p => ba (txt e p))) ((e + 1 : Nat) : Int) (ps.map (fun p => ba (txt e p))) ((ps.map (fun p => ba (txt e p))).length : Int) i) (fun _ => ()) _ (fun i h hnext => ?_) ?_
  · have hi : i < ps.length := by rw [List.length_map] at h; exact h
    obtain ⟨hv1, hv2⟩ := hv _ (List.getElem_mem hi)
    have hval := valid_full e ps[i] (by omega) hv1 hv2
    have hg : (ps.map (fun p => ba (txt e p)))[i] = ba (txt e ps[i]) := List.getElem_map ..
    refine Ev.step (f := _) (fun k => by rw [impl_MakeArray.l0, if_pos (by omega), if_pos (by omega), if_pos (by omega), rdS _ _ h, hg, w64_pred (by omega), w64_succ h (by rw [List.length_map]; omega)]) (Ev.bind hval ?_)
    simp only [if_true]
    exact hnext
  · have e0 : (ps.map (fun p => ba (txt e p))).map (fun b => b.data.toList) = ps.map (txt e) := by
      rw [List.map_map]
      exact List.map_congr_left (fun p _ => ba_data _)
    have hj : strings_Join.f (ps.map (fun p => ba (txt e p))) ⟨#[44]⟩ = some (ba (commas (ps.map (txt e)))) := by
      unfold strings_Join.f
      rw [if_pos (by rw [List.length_map]; omega), e0]
      exact if_pos hl
    refine Ev.step (f := fun _ => _) (fun k => ?_) (Ev.now _)
    have e1 : (⟨#[91]⟩ : ByteArray) = ba [91] := rfl
    have e2 : (⟨#[93]⟩ : ByteArray) = ba [93] := rfl
    have e3 : [91] ++ commas (ps.map (txt e)) ++ [93] = txt (e + 1) ⟨0, ps⟩ := by simp [txt]
    rw [impl_MakeArray.l0, if_neg (by omega), hj, Option.bind_some, e1, e2, ba_append, ba_append, ba_size, ba_size, if_pos (by omega), if_pos (by simp only [List.length_append, List.length_singleton]; omega), e3, ba_size]
    unfold made
    by_cases hb : (txt (e + 1) ⟨0, ps⟩).length > 400
    · rw [if_pos (by omega), if_pos hb]
    · rw [if_neg (by omega), if_neg hb]
theorem commas_two (xs ys : List (List UInt8)) : (commas (xs ++ ys)).length ≤ (commas xs).length + 1 + (commas ys).length := by
  induction xs with
  | nil => simp [commas_nil]
  | cons x xs ih =>
    rw [List.cons_append, commas_cons, commas_cons]
    by_cases h : xs = []
    · subst h
      rw [List.nil_append, if_pos rfl]
      by_cases hy : ys = []
      · rw [if_pos hy]; omega
      · rw [if_neg hy]; omega
    · rw [if_neg h, if_neg (by simp [h])]
      omega
theorem commas_rev (ls : List (List UInt8)) : (commas ls.reverse).length = (commas ls).length := by
  induction ls with
  | nil => rfl
  | cons x r ih =>
    rw [List.reverse_cons, commas_cons]
    by_cases h : r = []
    · subst h
      rw [if_pos rfl, List.reverse_nil, List.nil_append, commas_one]
      rfl
    · rw [if_neg h, commas_snoc _ _ (by simp [h]), List.length_append, List.length_cons, ih]
      omega
theorem va_parts (d : Nat) (n : S57) (hv : VA (d + 1) (tr n)) (hl : (txt (d + 1) (tr n)).length ≤ 400) : (∀ p ∈ trs n.f1, VA d p ∧ (txt d p).length ≤ 400) ∧ (trs n.f1).length ≤ 400 ∧ (commas ((trs n.f1).map (txt d))).length ≤ 400 := by
  have h1 := parts_le d (tr n)
  have h2 := fun p hp => part_le d (tr n) p hp
  have h3 := txt_succ_length d (tr n)
  have h4 := hv.2
  rw [tr_f1] at h1 h2 h3 h4
  refine ⟨fun p hp => ⟨h4 p hp, ?_⟩, by omega, by omega⟩
  have := h2 p hp
  omega
/-- What the reference tells of a list of valid parts. -/
theorem spec_told (e : Nat) (he : e + 1 ≤ 3) (ps : List S57) (hv : ∀ p ∈ trs ps, VA e p ∧ (txt e p).length ≤ 400) (hc : ps.length ≤ 100000000) (hl : (commas ((trs ps).map (txt e))).length ≤ 140737488355328) :
    Ev (fun k => spec_l1Text.f k 0 ps ((e + 1 : Nat) : Int)) (ba (txt (e + 1) ⟨0, trs ps⟩)) :=
  spec_text_top e (by omega) 0 ps (by omega) (by omega) (fun p hp => by
    obtain ⟨h1, h2⟩ := hv (tr p) (by rw [trs_map]; exact List.mem_map.2 ⟨p, hp, rfl⟩)
    exact spec_text e p (by omega) h1 (by omega))
theorem spec_l1Told_made (e : Nat) (he : e + 1 ≤ 3) (ps : List S57) (hv : ∀ p ∈ trs ps, VA e p ∧ (txt e p).length ≤ 400) (hc : ps.length ≤ 100000000) (hl : (commas ((trs ps).map (txt e))).length ≤ 140737488355328) :
    Ev (fun k => spec_l1Told.f k 0 ps ((e + 1 : Nat) : Int)) (made e (trs ps)) := by
  refine Ev.congr (fun k => by unfold spec_l1Told.f; rfl) (Ev.bind (spec_told e he ps hv hc hl) ?_)
  unfold made
  rw [ba_size]
  by_cases hb : (txt (e + 1) ⟨0, trs ps⟩).length > 400
  · rw [if_pos hb]
    exact Ev.congr (fun k => if_pos (by omega)) (Ev.now _)
  · rw [if_neg hb]
    exact Ev.congr (fun k => if_neg (by omega)) (Ev.now _)
end Go.Proofs.YtdhfdepnleioiaaDoor.PA
