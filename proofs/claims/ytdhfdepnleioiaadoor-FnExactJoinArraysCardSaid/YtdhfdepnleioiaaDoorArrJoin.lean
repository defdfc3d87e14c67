/-
JoinArrays: for every input the program answers as the reference does. Plain laws on the printed functions; no memory in them.
-/
import Derived.Test.YtdhfdepnleioiaaDoorArrMake
import Derived.Test.YtdhfdepnleioiaaDoorFA28
import Derived.Test.YtdhfdepnleioiaaDoorFA29
import Derived.Test.YtdhfdepnleioiaaDoorFA8
namespace Go.Proofs.YtdhfdepnleioiaaDoor.PA
open Go Go.RowKit Go.Proofs.YtdhfdepnleioiaaDoorW.PrintWords Go.Proofs.YtdhfdepnleioiaaDoorW.PrintLast

theorem join_both (s t : ByteArray) (dep : Int) : ∃ r b, Ev (fun k => impl_JoinArrays.f k s t dep) (r, b) ∧ Ev (fun k => spec_JoinArrays.f k s t dep) (r, b) := by
  have none2 : ∀ (x x' : Int) (y y' : List S57) (b b' : Bool), Ev (fun k => spec_l1Read.f k s dep) (x, y, b) → Ev (fun k => spec_l1Read.f k t dep) (x', y', b') → (b = false ∨ b' = false ∨ dep = 0) → Ev (fun k => spec_JoinArrays.f k s t dep) (⟨#[]⟩, false) := by
    intro x x' y y' b b' h1 h2 h
    refine Ev.congr (fun k => by unfold spec_JoinArrays.f; rfl) (Ev.bind h1 (Ev.bind h2 ?_))
    refine Ev.congr (f := fun _ => some (⟨#[]⟩, false)) (fun k => ?_) (Ev.now _)
    cases b with
    | false => rfl
    | true =>
      cases b' with
      | false => rfl
      | true =>
        have h0 : dep = 0 := by simpa using h
        rw [if_pos rfl, if_pos rfl, if_pos h0]
  have noneI : ∀ (l l' : List ByteArray) (b b' : Bool), Ev (fun k => impl_PartsOf.f k s dep) (l, b) → Ev (fun k => impl_PartsOf.f k t dep) (l', b') → (b = false ∨ b' = false) → Ev (fun k => impl_JoinArrays.f k s t dep) (⟨#[]⟩, false) := by
    intro l l' b b' h1 h2 h
    refine Ev.congr (fun k => by unfold impl_JoinArrays.f; rfl) (Ev.bind h1 (Ev.bind h2 ?_))
    refine Ev.congr (f := fun _ => some (⟨#[]⟩, false)) (fun k => ?_) (Ev.now _)
    cases b with
    | false => rfl
    | true =>
      cases b' with
      | false => rfl
      | true => simp at h
  rcases parts_both s dep with ⟨d, n, rfl, hd, hs, hv, ht, hr, h1, -⟩ | ⟨h1, -, x, y, b, hr, hb⟩
  · rcases parts_both t ((d + 1 : Nat) : Int) with ⟨d2, m, hd2, -, hs2, hv2, ht2, hr2, h3, -⟩ | ⟨h3, -, x2, y2, b2, hr2, hb2⟩
    · obtain rfl : d2 = d := by omega
      have hlen : (txt (d2 + 1) (tr n)).length ≤ 400 := by
        rw [← ht, Array.length_toList]
        exact hs
      have hlen2 : (txt (d2 + 1) (tr m)).length ≤ 400 := by
        rw [← ht2, Array.length_toList]
        exact hs2
      obtain ⟨p1, p2, p3⟩ := va_parts d2 n hv hlen
      obtain ⟨q1, q2, q3⟩ := va_parts d2 m hv2 hlen2
      have hvs : ∀ p ∈ trs (n.f1 ++ m.f1), VA d2 p ∧ (txt d2 p).length ≤ 400 := by
        intro p hp
        rw [trs_append] at hp
        rcases List.mem_append.1 hp with hp | hp
        · exact p1 p hp
        · exact q1 p hp
      have hcm : (commas ((trs (n.f1 ++ m.f1)).map (txt d2))).length ≤ 140737488355328 := by
        rw [trs_append, List.map_append]
        have := commas_two ((trs n.f1).map (txt d2)) ((trs m.f1).map (txt d2))
        omega
      have hct : (trs (n.f1 ++ m.f1)).length ≤ 100000000 := by
        rw [trs_append, List.length_append]
        omega
      have hI := impl_made d2 hd (trs (n.f1 ++ m.f1)) hvs hct hcm
      have hS := spec_l1Told_made d2 hd (n.f1 ++ m.f1) hvs (by rw [trs_length] at hct; exact hct) hcm
      refine ⟨(made d2 (trs (n.f1 ++ m.f1))).1, (made d2 (trs (n.f1 ++ m.f1))).2, ?_, ?_⟩
      · refine Ev.congr (fun k => by unfold impl_JoinArrays.f; rfl) (Ev.bind h1 (Ev.bind h3 ?_))
        have hmap : (trs (n.f1 ++ m.f1)).map (fun p => ba (txt d2 p)) = (trs n.f1).map (fun p => ba (txt d2 p)) ++ (trs m.f1).map (fun p => ba (txt d2 p)) := by rw [trs_append, List.map_append]
        rw [hmap] at hI
        simp only [if_true]
        refine Ev.congr (fun k => if_pos (by rw [List.length_map, List.length_map]; omega)) (Ev.bind hI (Ev.now _))
      · refine Ev.congr (fun k => by unfold spec_JoinArrays.f; rfl) (Ev.bind hr (Ev.bind hr2 ?_))
        rw [trs_length] at p2 q2
        have hz : ¬ (((d2 + 1 : Nat) : Int) = 0) := by omega
        simp only [if_true, hz, if_false, Option.bind_some, List.nil_append, List.length_nil]
        refine Ev.congr (fun k => if_pos (by omega)) (Ev.congr (fun k => if_pos (by omega)) (Ev.bind hS (Ev.now _)))
    · exact ⟨_, _, noneI _ _ _ _ h1 h3 (.inr rfl), none2 _ _ _ _ _ _ hr hr2 (.inr hb2)⟩
  · rcases parts_both t dep with ⟨d2, m, hd2, -, hs2, hv2, ht2, hr2, h3, -⟩ | ⟨h3, -, x2, y2, b2, hr2, hb2⟩
    · refine ⟨_, _, noneI _ _ _ _ h1 h3 (.inl rfl), none2 _ _ _ _ _ _ hr hr2 ?_⟩
      rcases hb with h | h
      · exact .inl h
      · exact .inr (.inr h)
    · refine ⟨_, _, noneI _ _ _ _ h1 h3 (.inl rfl), none2 _ _ _ _ _ _ hr hr2 ?_⟩
      rcases hb with h | h
      · exact .inl h
      · exact .inr (.inr h)
theorem law_JoinArrays : laws_FnExactJoinArrays.Pure := by
  intro s t dep _ _ _
  refine Ev.rounds ?_
  by_cases hb : (s.size : Int) > 1048576
  · exact Ev.congr (fun k => by unfold laws_FnExactJoinArrays.f; rw [if_pos hb]) (Ev.now _)
  by_cases hc : (t.size : Int) > 1048576
  · exact Ev.congr (fun k => by unfold laws_FnExactJoinArrays.f; rw [if_neg hb, if_pos hc]) (Ev.now _)
  · obtain ⟨r, b, h1, h2⟩ := join_both s t dep
    refine Ev.congr (fun k => by unfold laws_FnExactJoinArrays.f; rw [if_neg hb, if_neg hc]) (Ev.bind h2 (Ev.bind h1 ?_))
    simp only [if_true, bne_self_eq_false, Bool.false_eq_true, if_false]
    exact Ev.now _
end Go.Proofs.YtdhfdepnleioiaaDoor.PA
