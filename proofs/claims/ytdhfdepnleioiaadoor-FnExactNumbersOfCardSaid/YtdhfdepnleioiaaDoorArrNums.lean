/-
NumbersOf: for every input the program answers as the reference does, its argument stays, and its result is memory of its own. Plain laws on the printed functions; no memory in them.
-/
import Derived.Test.YtdhfdepnleioiaaDoorArrMark
import Derived.Test.YtdhfdepnleioiaaDoorFA6
namespace Go.Proofs.YtdhfdepnleioiaaDoor.PA
open Go Go.RowKit Go.Proofs.YtdhfdepnleioiaaDoorW.PrintWords Go.Proofs.YtdhfdepnleioiaaDoorW.PrintLast

theorem numbers_both (s : ByteArray) (dep : Int) : ∃ l b, l.length ≤ 1000 ∧ Ev (fun k => impl_NumbersOf.f k s dep) (l, b) ∧ Ev (fun k => spec_NumbersOf.f k s dep) (l, b) := by
  rcases arr_both s dep with ⟨d, n, rfl, hd, hs, hv, ht, h1, h2⟩ | ⟨⟨a, -, h1⟩, h2⟩
  · have hlen : (txt d (tr n)).length ≤ 400 := by
      rw [← ht, Array.length_toList]
      exact hs
    have hn := nums_le d (tr n)
    refine ⟨nums d (tr n), true, by omega, Ev.congr (fun k => by unfold impl_NumbersOf.f; rfl) (Ev.bind h1 ?_), Ev.congr (fun k => by unfold spec_NumbersOf.f; rfl) (Ev.bind h2 ?_)⟩
    · simp only [if_true]
      exact Ev.bind (impl_nums d (tr n) (by omega) hv (by omega)) (Ev.now _)
    · simp only [if_true]
      exact Ev.bind (spec_nums d n (by omega) hv (by omega)) (Ev.now _)
  · refine ⟨[], false, by simp, Ev.congr (fun k => by unfold impl_NumbersOf.f; rfl) (Ev.bind h1 ?_), Ev.congr (fun k => by unfold spec_NumbersOf.f; rfl) (Ev.bind h2 ?_)⟩
    · simp only [Bool.false_eq_true, if_false]
      exact Ev.now _
    · simp only [Bool.false_eq_true, if_false]
      exact Ev.now _
theorem law_NumbersOf : laws_FnExactNumbersOf.Pure := by
  intro s dep _ _
  refine Ev.rounds ?_
  by_cases hb : (s.size : Int) > 1048576
  · exact Ev.congr (fun k => by unfold laws_FnExactNumbersOf.f; rw [if_pos hb]) (Ev.now _)
  · obtain ⟨l, b, hl, h1, h2⟩ := numbers_both s dep
    have he := eqIntS_same l (by omega)
    have hm := markIntS_marks l 1 (by decide) (by decide) (by omega)
    have hh := heldIntS_marks 1 l.length (by decide) (by decide) (by omega)
    have hneg : ¬ ((1 : Int) + (l.length : Int) < 0) := by omega
    refine Ev.congr (fun k => by unfold laws_FnExactNumbersOf.f; rw [if_neg hb]) (Ev.bind h2 (Ev.bind h1 (Ev.bind he ?_)))
    simp only [if_true, bne_self_eq_false]
    refine Ev.step (f := _) (fun k => by rw [laws_FnExactNumbersOf.j0]) ?_
    simp only [Bool.false_eq_true, if_false]
    refine Ev.bind hm (Ev.bind hh ?_)
    simp only [hneg, if_false, if_true]
    refine Ev.bind h1 (Ev.bind he ?_)
    simp only [if_true, bne_self_eq_false]
    refine Ev.step (f := _) (fun k => by rw [laws_FnExactNumbersOf.j1]) ?_
    simp only [Bool.false_eq_true, if_false]
    refine Ev.bind hh ?_
    simp only [hneg, if_false, if_true]
    exact Ev.now _
end Go.Proofs.YtdhfdepnleioiaaDoor.PA
