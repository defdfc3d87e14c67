/-
The laws' faSame over two lists of numbers tells whether they are equal; what a byte's width says. Plain laws on the printed functions; no memory in them.
-/
import Derived.Test.YtdhfdepnleioiaaDoorGen
import Derived.Test.YtdhfdepnleioiaaDoorFA49
namespace Go.Proofs.YtdhfdepnleioiaaDoor.PA
open Go Go.RowKit Go.Proofs.YtdhfdepnleioiaaDoorW.PrintWords Go.Proofs.YtdhfdepnleioiaaDoorW.PrintLast

theorem faSame_loop (a b : List Int) (ha : a.length ≤ 100000000000000) : ∀ (m i : Nat), min a.length b.length - i = m → i ≤ min a.length b.length → a.take i = b.take i →
    Ev (fun k => laws_faSame.l0 k a b ((min a.length b.length : Nat) : Int) (i : Int)) (decide (a = b))
  | 0, i, hm, hi, ht => by
    have h : ¬ ((i : Int) < ((min a.length b.length : Nat) : Int)) := by omega
    have hr : ((a.length : Int) == (b.length : Int)) = decide (a = b) := by
      by_cases he : a = b
      · subst he; simp
      · rw [decide_eq_false he, beq_eq_false_iff_ne]
        intro hl
        apply he
        rw [List.take_of_length_le (by omega), List.take_of_length_le (by omega)] at ht
        exact ht
    rw [← hr]
    exact Ev.step (f := fun _ => _) (fun k => by rw [laws_faSame.l0, if_neg h]) (Ev.now _)
  | m + 1, i, hm, hi, ht => by
    have h1 : i < a.length := by omega
    have h2 : i < b.length := by omega
    by_cases he : a[i] = b[i]
    · have ih := faSame_loop a b ha m (i + 1) (by omega) (by omega) (by
        rw [List.take_add_one, List.take_add_one, ht, List.getElem?_eq_getElem h1, List.getElem?_eq_getElem h2, he])
      refine Ev.step (fun k => ?_) ih
      rw [laws_faSame.l0, if_pos (by omega), if_pos (by omega), if_pos (by omega), if_pos (by omega), rd_get _ _ h1, rd_get _ _ h2, if_pos he, w64_succ h1 (by omega)]
    · have hne : a ≠ b := by
        intro hab
        subst hab
        exact he rfl
      rw [decide_eq_false hne]
      refine Ev.step (f := fun _ => _) (fun k => ?_) (Ev.now _)
      rw [laws_faSame.l0, if_pos (by omega), if_pos (by omega), if_pos (by omega), if_pos (by omega), rd_get _ _ h1, rd_get _ _ h2, if_neg he]
theorem faSame_ev (a b : List Int) (ha : a.length ≤ 100000000000000) : Ev (fun k => laws_faSame.f k a b) (decide (a = b)) := by
  have h := faSame_loop a b ha _ 0 rfl (by omega) rfl
  refine Ev.congr (fun k => ?_) h
  unfold laws_faSame.f
  have : mn (a.length : Int) (b.length : Int) = ((min a.length b.length : Nat) : Int) := by unfold mn; split <;> omega
  rw [this]
  rfl
theorem wf_u8 {n : Int} (h : (Lit.int .u8 n).wf = true) : 0 ≤ n ∧ n ≤ 255 := by
  simp [Lit.wf, IntKind.min, IntKind.max, IntKind.signed, IntKind.bits] at h
  omega
end Go.Proofs.YtdhfdepnleioiaaDoor.PA
