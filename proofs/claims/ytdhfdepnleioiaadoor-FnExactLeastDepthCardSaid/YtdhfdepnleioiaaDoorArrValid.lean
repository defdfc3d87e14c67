/-
ArrayValid, InputsValid and LeastDepth: for every input the program answers as the reference does. Plain laws on the printed functions; no memory in them.
-/
import Derived.Test.YtdhfdepnleioiaaDoorArrOf
import Derived.Test.YtdhfdepnleioiaaDoorPAx4
import Derived.Test.YtdhfdepnleioiaaDoorPAx8
namespace Go.Proofs.YtdhfdepnleioiaaDoor.PA
open Go Go.RowKit Go.Proofs.YtdhfdepnleioiaaDoorW.PrintWords Go.Proofs.YtdhfdepnleioiaaDoorW.PrintLast

theorem valid_both (s : ByteArray) (dep : Int) : ∃ b, Ev (fun k => impl_ArrayValid.f k s dep) b ∧ Ev (fun k => spec_ArrayValid.f k s dep) b := by
  rcases arr_both s dep with ⟨d, n, -, -, -, -, -, h1, h2⟩ | ⟨⟨a, -, h1⟩, h2⟩
  · exact ⟨true, Ev.congr (fun k => by unfold impl_ArrayValid.f; rfl) (Ev.bind h1 (Ev.now _)), Ev.congr (fun k => by unfold spec_ArrayValid.f; rfl) (Ev.bind h2 (Ev.now _))⟩
  · exact ⟨false, Ev.congr (fun k => by unfold impl_ArrayValid.f; rfl) (Ev.bind h1 (Ev.now _)), Ev.congr (fun k => by unfold spec_ArrayValid.f; rfl) (Ev.bind h2 (Ev.now _))⟩
theorem inputs_both (s t : ByteArray) : ∃ b, Ev (fun k => impl_InputsValid.f k s t) b ∧ Ev (fun k => spec_InputsValid.f k s t) b := by
  obtain ⟨b, h1, h2⟩ := valid_both s 1
  obtain ⟨c, h3, h4⟩ := valid_both t 2
  cases b with
  | false =>
    refine ⟨false, Ev.congr (fun k => by unfold impl_InputsValid.f; rfl) (Ev.bind h1 ?_), Ev.congr (fun k => by unfold spec_InputsValid.f; rfl) (Ev.bind h2 ?_)⟩
    · simp only [Bool.false_eq_true, if_false]
      exact Ev.now _
    · simp only [Bool.false_eq_true, if_false]
      exact Ev.now _
  | true =>
    refine ⟨c, Ev.congr (fun k => by unfold impl_InputsValid.f; rfl) (Ev.bind h1 ?_), Ev.congr (fun k => by unfold spec_InputsValid.f; rfl) (Ev.bind h2 ?_)⟩
    · simp only [if_true]
      exact Ev.bind h3 (Ev.now _)
    · simp only [if_true]
      exact Ev.bind h4 (Ev.now _)
theorem least_loop (s : ByteArray) : ∀ m x : Nat, 4 - x = m → ∃ r, Ev (fun k => impl_LeastDepth.l0 k s (x : Int)) r ∧ Ev (fun k => spec_LeastDepth.l0 k s (x : Int)) r
  | 0, x, h => by
    have h4 : ¬ ((x : Int) < 4) := by omega
    refine ⟨-1, Ev.step (fun k => by rw [impl_LeastDepth.l0, if_neg h4]) (Ev.now _), Ev.step (fun k => by rw [spec_LeastDepth.l0, if_neg h4]) (Ev.now _)⟩
  | m + 1, x, h => by
    have h4 : (x : Int) < 4 := by omega
    obtain ⟨b, h1, h2⟩ := valid_both s (x : Int)
    have hw : wrap64 ((x : Int) + 1) = ((x + 1 : Nat) : Int) := by rw [w64 (by omega) (by omega)]; omega
    cases b with
    | true =>
      refine ⟨(x : Int), Ev.step (fun k => by rw [impl_LeastDepth.l0, if_pos h4]) (Ev.bind h1 ?_), Ev.step (fun k => by rw [spec_LeastDepth.l0, if_pos h4]) (Ev.bind h2 ?_)⟩
      · simp only [if_true]
        exact Ev.now _
      · simp only [if_true]
        exact Ev.now _
    | false =>
      obtain ⟨r, h5, h6⟩ := least_loop s m (x + 1) (by omega)
      refine ⟨r, Ev.step (fun k => by rw [impl_LeastDepth.l0, if_pos h4]) (Ev.bind h1 ?_), Ev.step (fun k => by rw [spec_LeastDepth.l0, if_pos h4]) (Ev.bind h2 ?_)⟩
      · simp only [Bool.false_eq_true, if_false, hw]
        exact h5
      · simp only [Bool.false_eq_true, if_false, hw]
        exact h6
theorem least_both (s : ByteArray) : ∃ r, Ev (fun k => impl_LeastDepth.f k s) r ∧ Ev (fun k => spec_LeastDepth.f k s) r := least_loop s 4 0 rfl

theorem law_ArrayValid : laws_FnExactArrayValid.Pure := by
  intro s dep _ _
  refine Ev.rounds ?_
  by_cases hb : (s.size : Int) > 1048576
  · exact Ev.congr (fun k => by unfold laws_FnExactArrayValid.f; rw [if_pos hb]) (Ev.now _)
  · obtain ⟨b, h1, h2⟩ := valid_both s dep
    refine Ev.congr (fun k => by unfold laws_FnExactArrayValid.f; rw [if_neg hb]) (Ev.bind h2 (Ev.bind h1 ?_))
    simp only [bne_self_eq_false, Bool.false_eq_true, if_false]
    exact Ev.now _
theorem law_InputsValid : laws_FnExactInputsValid.Pure := by
  intro s t _ _
  refine Ev.rounds ?_
  by_cases hb : (s.size : Int) > 1048576
  · exact Ev.congr (fun k => by unfold laws_FnExactInputsValid.f; rw [if_pos hb]) (Ev.now _)
  by_cases hc : (t.size : Int) > 1048576
  · exact Ev.congr (fun k => by unfold laws_FnExactInputsValid.f; rw [if_neg hb, if_pos hc]) (Ev.now _)
  · obtain ⟨b, h1, h2⟩ := inputs_both s t
    refine Ev.congr (fun k => by unfold laws_FnExactInputsValid.f; rw [if_neg hb, if_neg hc]) (Ev.bind h2 (Ev.bind h1 ?_))
    simp only [bne_self_eq_false, Bool.false_eq_true, if_false]
    exact Ev.now _
theorem law_LeastDepth : laws_FnExactLeastDepth.Pure := by
  intro s _
  refine Ev.rounds ?_
  by_cases hb : (s.size : Int) > 1048576
  · exact Ev.congr (fun k => by unfold laws_FnExactLeastDepth.f; rw [if_pos hb]) (Ev.now _)
  · obtain ⟨b, h1, h2⟩ := least_both s
    refine Ev.congr (fun k => by unfold laws_FnExactLeastDepth.f; rw [if_neg hb]) (Ev.bind h2 (Ev.bind h1 ?_))
    simp only [if_true]
    exact Ev.now _
end Go.Proofs.YtdhfdepnleioiaaDoor.PA
