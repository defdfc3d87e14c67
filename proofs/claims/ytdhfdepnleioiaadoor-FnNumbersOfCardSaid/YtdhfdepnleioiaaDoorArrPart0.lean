/-
PartsOf: where a text is an array of a depth above 0, both take its parts' texts; where it is none, both take none. Plain laws on the printed functions; no memory in them.
-/
import Derived.Test.YtdhfdepnleioiaaDoorArrText
import Derived.Test.YtdhfdepnleioiaaDoorFA32
import Derived.Test.YtdhfdepnleioiaaDoorFA33
namespace Go.Proofs.YtdhfdepnleioiaaDoor.PA
open Go Go.RowKit Go.Proofs.YtdhfdepnleioiaaDoorW.PrintWords Go.Proofs.YtdhfdepnleioiaaDoorW.PrintLast

/-- What the program's PartsOf tells of an array of a depth above 0. -/
theorem impl_parts (s : ByteArray) (d : Nat) (n : S57) (hd : d + 1 ≤ 3) (hv : VA (d + 1) (tr n)) (hl : (txt (d + 1) (tr n)).length ≤ 400) (h1 : Ev (fun k => impl_arrOf.f k s ((d + 1 : Nat) : Int)) ((tr n).f0, (tr n).f1, true)) :
    Ev (fun k => impl_PartsOf.f k s ((d + 1 : Nat) : Int)) ((trs n.f1).map (fun p => ba (txt d p)), true) := by
  have hps := parts_le d (tr n)
  have hpl := fun p hp => part_le d (tr n) p hp
  rw [tr_f1] at hps hpl
  refine Ev.congr (fun k => by unfold impl_PartsOf.f; rfl) (Ev.bind h1 ?_)
  have hz : (((d + 1 : Nat) : Int) == 0) = false := by rw [beq_eq_false_iff_ne]; omega
  simp only [if_true, hz]
  refine Ev.step (f := fun k => impl_PartsOf.l0 k ((d + 1 : Nat) : Int) ((([] : List S62).map (fun p => ba (txt d p)))) (trs n.f1) ((trs n.f1).length : Int) 0) (fun k => by rw [impl_PartsOf.j0, tr_f1]; rfl) ?_
  refine Ev_front (trs n.f1) (fun k acc i => impl_PartsOf.l0 k ((d + 1 : Nat) : Int) acc (trs n.f1) ((trs n.f1).length : Int) i) (fun l => l.map (fun p => ba (txt d p))) _ (fun i h hnext => ?_) ?_
  · have hp := hpl _ (List.getElem_mem h)
    have ih := impl_text d (trs n.f1)[i] (by omega) (hv.2 _ (by rw [tr_f1]; exact List.getElem_mem h)) (by omega)
    refine Ev.step (f := fun k => (impl_arr_text.f k (trs n.f1)[i].f0 (trs n.f1)[i].f1 (d : Int)).bind fun t => (if (((trs n.f1).take i).map (fun p => ba (txt d p))).length < 8796093022208 then (impl_PartsOf.l0 k ((d + 1 : Nat) : Int) (((trs n.f1).take i).map (fun p => ba (txt d p)) ++ [t]) (trs n.f1) ((trs n.f1).length : Int) ((i + 1 : Nat) : Int)) else none)) (fun k => ?_) (Ev.bind ih ?_)
    · rw [impl_PartsOf.l0, if_pos (by omega), if_pos (by omega), if_pos (by omega), rd62 _ _ h, w64_pred (by omega), w64_succ h (by omega)]
    · refine Ev.congr (fun k => if_pos ?_) ?_
      · rw [List.length_map, List.length_take]
        omega
      · rw [List.map_append] at hnext
        exact hnext
  · refine Ev.step (f := fun _ => _) (fun k => ?_) (Ev.now _)
    rw [impl_PartsOf.l0, if_neg (by omega)]
theorem spec_parts (s : ByteArray) (d : Nat) (n : S57) (hd : d + 1 ≤ 3) (hv : VA (d + 1) (tr n)) (hl : (txt (d + 1) (tr n)).length ≤ 400) (h1 : Ev (fun k => spec_l1Read.f k s ((d + 1 : Nat) : Int)) (n.f0, n.f1, true)) :
    Ev (fun k => spec_PartsOf.f k s ((d + 1 : Nat) : Int)) ((trs n.f1).map (fun p => ba (txt d p)), true) := by
  have hps := parts_le d (tr n)
  rw [tr_f1, trs_length] at hps
  have hin : ∀ p ∈ n.f1, tr p ∈ (tr n).f1 := fun p hp => by rw [tr_f1, trs_map]; exact List.mem_map.2 ⟨p, hp, rfl⟩
  have hm : (trs n.f1).map (fun p => ba (txt d p)) = n.f1.map (fun p => ba (txt d (tr p))) := by rw [trs_map, List.map_map]; rfl
  rw [hm]
  refine Ev.congr (fun k => by unfold spec_PartsOf.f; rw [Option.bind_some]) (Ev.bind h1 ?_)
  have hz : (((d + 1 : Nat) : Int) == 0) = false := by rw [beq_eq_false_iff_ne]; omega
  simp only [if_true, hz]
  refine Ev.step (f := fun k => spec_PartsOf.l0 k ((d + 1 : Nat) : Int) ((([] : List S57).map (fun p => ba (txt d (tr p))))) n.f1 (n.f1.length : Int) 0) (fun k => by rw [spec_PartsOf.j0]; rfl) ?_
  refine Ev_front n.f1 (fun k acc i => spec_PartsOf.l0 k ((d + 1 : Nat) : Int) acc n.f1 (n.f1.length : Int) i) (fun l => l.map (fun p => ba (txt d (tr p)))) _ (fun i h hnext => ?_) ?_
  · have hp := part_le d (tr n) _ (hin _ (List.getElem_mem h))
    have ih := spec_text d n.f1[i] (by omega) (hv.2 _ (hin _ (List.getElem_mem h))) (by omega)
    refine Ev.step (f := fun k => (spec_l1Text.f k n.f1[i].f0 n.f1[i].f1 (d : Int)).bind fun t => (if ((n.f1.take i).map (fun p => ba (txt d (tr p)))).length < 8796093022208 then (spec_PartsOf.l0 k ((d + 1 : Nat) : Int) ((n.f1.take i).map (fun p => ba (txt d (tr p))) ++ [t]) n.f1 (n.f1.length : Int) ((i + 1 : Nat) : Int)) else none)) (fun k => ?_) (Ev.bind ih ?_)
    · rw [spec_PartsOf.l0, if_pos (by omega), if_pos (by omega), if_pos (by omega), rd57 _ _ h, w64_pred (by omega), w64_succ h (by omega)]
    · refine Ev.congr (fun k => if_pos ?_) ?_
      · rw [List.length_map, List.length_take]
        omega
      · rw [List.map_append] at hnext
        exact hnext
  · refine Ev.step (f := fun _ => _) (fun k => ?_) (Ev.now _)
    rw [spec_PartsOf.l0, if_neg (by omega)]
/-- Where the text is no array of the depth, or the depth is 0, both take none. -/
theorem parts_none_impl (s : ByteArray) (dep : Int) (x : Int) (y : List S62) (b : Bool) (h : Ev (fun k => impl_arrOf.f k s dep) (x, y, b)) (hb : b = false ∨ dep = 0) : Ev (fun k => impl_PartsOf.f k s dep) ([], false) := by
  refine Ev.congr (fun k => by unfold impl_PartsOf.f; rfl) (Ev.bind h ?_)
  refine Ev.congr (f := fun k => impl_PartsOf.j0 k dep true x y) (fun k => ?_) (Ev.step (f := fun _ => _) (fun k => by rw [impl_PartsOf.j0, if_pos rfl]) (Ev.now _))
  rcases hb with rfl | rfl
  · rfl
  · cases b <;> rfl
theorem parts_none_spec (s : ByteArray) (dep : Int) (x : Int) (y : List S57) (b : Bool) (h : Ev (fun k => spec_l1Read.f k s dep) (x, y, b)) (hb : b = false ∨ dep = 0) : Ev (fun k => spec_PartsOf.f k s dep) ([], false) := by
  refine Ev.congr (fun k => by unfold spec_PartsOf.f; rw [Option.bind_some]) (Ev.bind h ?_)
  refine Ev.congr (f := fun k => spec_PartsOf.j0 k dep [] true x y) (fun k => ?_) (Ev.step (f := fun _ => _) (fun k => by rw [spec_PartsOf.j0, if_pos rfl]) (Ev.now _))
  rcases hb with rfl | rfl
  · rfl
  · cases b <;> rfl
theorem parts_both (s : ByteArray) (dep : Int) :
    (∃ (d : Nat) (n : S57), dep = ((d + 1 : Nat) : Int) ∧ d + 1 ≤ 3 ∧ s.size ≤ 400 ∧ VA (d + 1) (tr n) ∧ s.data.toList = txt (d + 1) (tr n) ∧ Ev (fun k => spec_l1Read.f k s dep) (n.f0, n.f1, true) ∧
        Ev (fun k => impl_PartsOf.f k s dep) ((trs n.f1).map (fun p => ba (txt d p)), true) ∧ Ev (fun k => spec_PartsOf.f k s dep) ((trs n.f1).map (fun p => ba (txt d p)), true)) ∨
      (Ev (fun k => impl_PartsOf.f k s dep) ([], false) ∧ Ev (fun k => spec_PartsOf.f k s dep) ([], false) ∧ ∃ x y b, Ev (fun k => spec_l1Read.f k s dep) (x, y, b) ∧ (b = false ∨ dep = 0)) := by
  rcases arr_both s dep with ⟨d, n, rfl, hd, hs, hv, ht, h1, h2⟩ | ⟨⟨a, -, h1⟩, h2⟩
  · have hlen : (txt d (tr n)).length ≤ 400 := by
      rw [← ht, Array.length_toList]
      exact hs
    cases d with
    | zero => exact .inr ⟨parts_none_impl _ _ _ _ _ h1 (.inr rfl), parts_none_spec _ _ _ _ _ h2 (.inr rfl), _, _, _, h2, .inr rfl⟩
    | succ d => exact .inl ⟨d, n, rfl, hd, hs, hv, ht, h2, impl_parts s d n hd hv hlen h1, spec_parts s d n hd hv hlen h2⟩
  · exact .inr ⟨parts_none_impl _ _ _ _ _ h1 (.inl rfl), parts_none_spec _ _ _ _ _ h2 (.inl rfl), _, _, _, h2, .inl rfl⟩
theorem parts_same (s : ByteArray) (dep : Int) : ∃ l b, l.length ≤ 1000 ∧ Ev (fun k => impl_PartsOf.f k s dep) (l, b) ∧ Ev (fun k => spec_PartsOf.f k s dep) (l, b) := by
  rcases parts_both s dep with ⟨d, n, rfl, hd, hs, hv, ht, -, h1, h2⟩ | ⟨h1, h2, -⟩
  · refine ⟨_, _, ?_, h1, h2⟩
    have hlen : (txt (d + 1) (tr n)).length ≤ 400 := by
      rw [← ht, Array.length_toList]
      exact hs
    have hps := parts_le d (tr n)
    rw [tr_f1] at hps
    rw [List.length_map]
    omega
  · exact ⟨_, _, by simp, h1, h2⟩
end Go.Proofs.YtdhfdepnleioiaaDoor.PA
