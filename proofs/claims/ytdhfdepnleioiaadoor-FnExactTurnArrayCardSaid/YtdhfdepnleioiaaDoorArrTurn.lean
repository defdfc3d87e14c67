/-
TurnArray: for every input the program answers as the reference does. Plain laws on the printed functions; no memory in them.
-/
import Derived.Test.YtdhfdepnleioiaaDoorArrMake
import Derived.Test.YtdhfdepnleioiaaDoorFA30
import Derived.Test.YtdhfdepnleioiaaDoorFA31
import Derived.Test.YtdhfdepnleioiaaDoorFA9
namespace Go.Proofs.YtdhfdepnleioiaaDoor.PA
open Go Go.RowKit Go.Proofs.YtdhfdepnleioiaaDoorW.PrintWords Go.Proofs.YtdhfdepnleioiaaDoorW.PrintLast

/-! ### turning -/
/-- A list of which the first i and the last i have changed places. -/
def half (l : List ByteArray) (i : Nat) : List ByteArray := (List.range l.length).map (fun m => if m < i ∨ l.length - i ≤ m then l.getD (l.length - 1 - m) ByteArray.empty else l.getD m ByteArray.empty)
theorem half_length (l : List ByteArray) (i : Nat) : (half l i).length = l.length := by simp [half]
theorem half_get (l : List ByteArray) (i m : Nat) (h : m < (half l i).length) : (half l i)[m] = if m < i ∨ l.length - i ≤ m then l.getD (l.length - 1 - m) ByteArray.empty else l.getD m ByteArray.empty := by simp [half]
theorem half_zero (l : List ByteArray) : half l 0 = l := by
  refine List.ext_getElem (half_length _ _) (fun m h1 h2 => ?_)
  rw [half_get _ _ _ h1, if_neg (by omega)]
  simp [List.getD_eq_getElem?_getD, h2]
theorem half_end (l : List ByteArray) (i : Nat) (h : l.length ≤ 2 * i + 1) : half l i = l.reverse := by
  refine List.ext_getElem (by rw [half_length, List.length_reverse]) (fun m h1 h2 => ?_)
  have h3 : m < l.length := by rw [half_length] at h1; exact h1
  rw [half_get _ _ _ h1, List.getElem_reverse]
  by_cases hm : m < i ∨ l.length - i ≤ m
  · rw [if_pos hm, List.getD_eq_getElem?_getD, List.getElem?_eq_getElem (by omega)]
    rfl
  · rw [if_neg hm, List.getD_eq_getElem?_getD, List.getElem?_eq_getElem h3]
    have : l.length - 1 - m = m := by omega
    simp [this]
theorem half_succ (l : List ByteArray) (i : Nat) (h : 2 * i + 1 < l.length) : half l (i + 1) = ((half l i).set i (rdOf ByteArray.empty (half l i) ((l.length - 1 - i : Nat) : Int))).set (l.length - 1 - i) (rdOf ByteArray.empty (half l i) (i : Int)) := by
  have r1 : rdOf ByteArray.empty (half l i) ((l.length - 1 - i : Nat) : Int) = l.getD (l.length - 1 - i) ByteArray.empty := by
    rw [rdS _ _ (by rw [half_length]; omega), half_get, if_neg (by omega)]
  have r2 : rdOf ByteArray.empty (half l i) (i : Int) = l.getD i ByteArray.empty := by
    rw [rdS _ _ (by rw [half_length]; omega), half_get, if_neg (by omega)]
  rw [r1, r2]
  refine List.ext_getElem (by simp [half_length]) (fun m h1 h2 => ?_)
  have h3 : m < l.length := by rw [half_length] at h1; exact h1
  rw [half_get _ _ _ h1, List.getElem_set, List.getElem_set]
  by_cases ha : l.length - 1 - i = m
  · rw [if_pos ha, if_pos (by omega)]
    congr 1
    omega
  · rw [if_neg ha]
    by_cases hb : i = m
    · rw [if_pos hb, if_pos (by omega), hb]
    · rw [if_neg hb, half_get _ _ _ (by rw [half_length]; exact h3)]
      by_cases hm : m < i ∨ l.length - i ≤ m
      · rw [if_pos hm, if_pos (by omega)]
      · rw [if_neg hm, if_neg (by omega)]
theorem reverse_loop (l : List ByteArray) (hl : l.length ≤ 1000000000000) : ∀ (m i : Nat), l.length - 2 * i = m → 2 * i ≤ l.length + 1 →
    Ev (fun k => slices_Reverse_string_string.l0 k (half l i) (i : Int) ((l.length : Int) - 1 - (i : Int))) l.reverse := by
  intro m
  induction m using Nat.strongRecOn with
  | _ m ih =>
  intro i hm hi
  by_cases h : 2 * i + 1 < l.length
  · have h2 := ih (l.length - 2 * (i + 1)) (by omega) (i + 1) rfl (by omega)
    rw [half_succ l i h] at h2
    have hj : (l.length : Int) - 1 - (i : Int) = ((l.length - 1 - i : Nat) : Int) := by omega
    have w1 : wrap64 ((i : Int) + 1) = ((i + 1 : Nat) : Int) := by rw [w64 (by omega) (by omega)]; omega
    have w2 : wrap64 (((l.length - 1 - i : Nat) : Int) - 1) = (l.length : Int) - 1 - ((i + 1 : Nat) : Int) := by rw [w64 (by omega) (by omega)]; omega
    rw [hj]
    refine Ev.step (fun k => ?_) h2
    rw [slices_Reverse_string_string.l0, if_pos (by omega), if_pos (by omega), if_pos (by rw [half_length]; omega), if_pos (by omega), if_pos (by rw [half_length]; omega), Int.toNat_natCast, Int.toNat_natCast, w1, w2]
  · refine Ev.step (f := fun _ => _) (fun k => ?_) (Ev.now _)
    rw [slices_Reverse_string_string.l0, if_neg (by omega), half_end l i (by omega)]
theorem reverse_ev (l : List ByteArray) (hl : l.length ≤ 1000000000000) : Ev (fun k => slices_Reverse_string_string.f k l) l.reverse := by
  have h := reverse_loop l hl _ 0 rfl (by omega)
  rw [half_zero] at h
  have w2 : wrap64 ((l.length : Int) - 1) = (l.length : Int) - 1 - ((0 : Nat) : Int) := by rw [w64 (by omega) (by omega)]; omega
  refine Ev.congr (fun k => ?_) h
  unfold slices_Reverse_string_string.f
  rw [w2]
  rfl
theorem s57_eta (p : S57) : (⟨p.f0, p.f1⟩ : S57) = p := by cases p; rfl
theorem spec_turn_loop (dep x0 : Int) (ps : List S57) (hc : ps.length ≤ 100000000) (r : ByteArray × Bool) (h : Ev (fun k => (spec_l1Text.f k 0 ps.reverse dep).bind fun t => some (t, true)) r) :
    ∀ (i : Nat), i ≤ ps.length → Ev (fun k => spec_TurnArray.l0 k dep ((i : Int) - 1) x0 ps 0 ((ps.drop i).reverse)) r
  | 0, _ => by
    refine Ev.step (fun k => ?_) h
    rw [spec_TurnArray.l0, if_neg (by omega)]
    rfl
  | i + 1, hi => by
    have ih := spec_turn_loop dep x0 ps hc r h i (by omega)
    have hlt : i < ps.length := by omega
    rw [List.drop_eq_getElem_cons hlt, List.reverse_cons] at ih
    have hx : (((i + 1 : Nat) : Int) - 1) = (i : Int) := by omega
    have hw : wrap64 ((i : Int) - 1) = (i : Int) - 1 := w64 (by omega) (by omega)
    rw [hx]
    refine Ev.step (fun k => ?_) ih
    rw [spec_TurnArray.l0, if_pos (by omega), if_pos (by omega), if_pos (by omega), if_pos (by rw [List.length_reverse, List.length_drop]; omega), rd57 _ _ hlt, s57_eta, hw]
theorem trs_reverse (ps : List S57) : trs ps.reverse = (trs ps).reverse := by rw [trs_map, trs_map, List.map_reverse]
theorem turn_both (s : ByteArray) (dep : Int) : ∃ r b, Ev (fun k => impl_TurnArray.f k s dep) (r, b) ∧ Ev (fun k => spec_TurnArray.f k s dep) (r, b) := by
  rcases parts_both s dep with ⟨d, n, rfl, hd, hs, hv, ht, hr, h1, -⟩ | ⟨h1, -, x, y, b, hr, hb⟩
  · have hlen : (txt (d + 1) (tr n)).length ≤ 400 := by
      rw [← ht, Array.length_toList]
      exact hs
    obtain ⟨p1, p2, p3⟩ := va_parts d n hv hlen
    have hts := txt_succ_length d (tr n)
    rw [tr_f1] at hts
    have hvr : ∀ p ∈ (trs n.f1).reverse, VA d p ∧ (txt d p).length ≤ 400 := fun p hp => p1 p (List.mem_reverse.1 hp)
    have hcr : (commas ((trs n.f1).reverse.map (txt d))).length = (commas ((trs n.f1).map (txt d))).length := by
      rw [List.map_reverse]
      exact commas_rev _
    have hI := impl_made d hd (trs n.f1).reverse hvr (by rw [List.length_reverse]; omega) (by omega)
    have hshort : ¬ (txt (d + 1) ⟨0, (trs n.f1).reverse⟩).length > 400 := by
      rw [txt_succ_length]
      show ¬ (commas ((trs n.f1).reverse.map (txt d))).length + 2 > 400
      omega
    unfold made at hI
    rw [if_neg hshort] at hI
    have hS := spec_told d hd n.f1.reverse (by rw [trs_reverse]; exact hvr) (by rw [List.length_reverse]; rw [trs_length] at p2; omega) (by rw [trs_reverse]; omega)
    rw [trs_reverse] at hS
    refine ⟨ba (txt (d + 1) ⟨0, (trs n.f1).reverse⟩), true, ?_, ?_⟩
    · refine Ev.congr (fun k => by unfold impl_TurnArray.f; rfl) (Ev.bind h1 ?_)
      have hrev := reverse_ev ((trs n.f1).map (fun p => ba (txt d p))) (by rw [List.length_map]; omega)
      rw [← List.map_reverse] at hrev
      simp only [if_true]
      exact Ev.bind hrev (Ev.bind hI (Ev.now _))
    · refine Ev.congr (fun k => by unfold spec_TurnArray.f; rfl) (Ev.bind hr ?_)
      have hz : (((d + 1 : Nat) : Int) == 0) = false := by rw [beq_eq_false_iff_ne]; omega
      simp only [if_true, hz]
      have hloop := spec_turn_loop ((d + 1 : Nat) : Int) n.f0 n.f1 (by rw [trs_length] at p2; omega) _ (Ev.bind hS (Ev.now _)) n.f1.length (Nat.le_refl _)
      rw [List.drop_length, List.reverse_nil] at hloop
      refine Ev.step (fun k => ?_) hloop
      rw [spec_TurnArray.j0, if_neg (by decide)]
      have hw : wrap64 ((n.f1.length : Int) - 1) = (n.f1.length : Int) - 1 := by rw [trs_length] at p2; exact w64 (by omega) (by omega)
      rw [hw]
  · refine ⟨⟨#[]⟩, false, Ev.congr (fun k => by unfold impl_TurnArray.f; rfl) (Ev.bind h1 ?_), Ev.congr (fun k => by unfold spec_TurnArray.f; rfl) (Ev.bind hr ?_)⟩
    · simp only [Bool.false_eq_true, if_false]
      exact Ev.now _
    · refine Ev.congr (f := fun k => spec_TurnArray.j0 k dep true x y) (fun k => ?_) (Ev.step (f := fun _ => _) (fun k => by rw [spec_TurnArray.j0, if_pos rfl]) (Ev.now _))
      rcases hb with rfl | rfl
      · rfl
      · cases b <;> rfl
theorem law_TurnArray : laws_FnExactTurnArray.Pure := by
  intro s dep _ _
  refine Ev.rounds ?_
  by_cases hb : (s.size : Int) > 1048576
  · exact Ev.congr (fun k => by unfold laws_FnExactTurnArray.f; rw [if_pos hb]) (Ev.now _)
  · obtain ⟨r, b, h1, h2⟩ := turn_both s dep
    refine Ev.congr (fun k => by unfold laws_FnExactTurnArray.f; rw [if_neg hb]) (Ev.bind h2 (Ev.bind h1 ?_))
    simp only [if_true, bne_self_eq_false, Bool.false_eq_true, if_false]
    exact Ev.now _
end Go.Proofs.YtdhfdepnleioiaaDoor.PA
