/-
FnNumbersOf: for every input of the draws the law's function returns true. Plain laws on the printed functions; no memory in them.
-/
import Derived.Test.YtdhfdepnleioiaaDoorArrDraw
import Derived.Test.YtdhfdepnleioiaaDoorSame
import Derived.Test.YtdhfdepnleioiaaDoorArrFull
import Derived.Test.YtdhfdepnleioiaaDoorArrPart0
import Derived.Test.YtdhfdepnleioiaaDoorFA22
import Derived.Test.YtdhfdepnleioiaaDoorFA21
import Derived.Test.YtdhfdepnleioiaaDoorFA14
namespace Go.Proofs.YtdhfdepnleioiaaDoor.PA
open Go Go.RowKit Go.Proofs.YtdhfdepnleioiaaDoorW.PrintWords Go.Proofs.YtdhfdepnleioiaaDoorW.PrintLast

theorem nums_range : ∀ (d : Nat) (a : S62), VA d a → ∀ x ∈ nums d a, 0 ≤ x ∧ x ≤ 10006
  | 0, a, hv, x, hx => by
    obtain ⟨h0, h1, _⟩ := hv
    have : x = a.f0 := by simpa [nums] using hx
    rw [this]
    exact ⟨h0, h1⟩
  | d + 1, a, hv, x, hx => by
    obtain ⟨p, hp, hx2⟩ := List.mem_flatMap.1 (show x ∈ a.f1.flatMap (nums d) from hx)
    exact nums_range d p (hv.2 p hp) x hx2
theorem impl_numbers_ok (s : ByteArray) (d : Nat) (a : S62) (hd : d ≤ 3) (hv : VA d a) (hl : (txt d a).length ≤ 400) (h1 : Ev (fun k => impl_arrOf.f k s (d : Int)) (a.f0, a.f1, true)) : Ev (fun k => impl_NumbersOf.f k s (d : Int)) (nums d a, true) := by
  refine Ev.congr (fun k => by unfold impl_NumbersOf.f; rfl) (Ev.bind h1 ?_)
  simp only [if_true]
  exact Ev.bind (impl_nums d a (by omega) hv (by omega)) (Ev.now _)
theorem range_loop (x4 : Int) (l x11 : List Int) (hl : l.length ≤ 100000000) (hr : ∀ x ∈ l, 0 ≤ x ∧ x ≤ 10006) (r : Bool)
    (h : Ev (fun k => (if x4 = 0 then (if (l.length : Int) = 1 then (some true) else (if x4 > 0 then ((laws_faSame.f k x11 l).bind fun t => (some t)) else (some false))) else (if x4 > 0 then ((laws_faSame.f k x11 l).bind fun t => (some t)) else (some false)))) r) :
    Ev (fun k => laws_FnNumbersOf.l1 k x4 l x11 l (l.length : Int) 0) r := by
  refine Ev_front l (fun k (_ : Unit) i => laws_FnNumbersOf.l1 k x4 l x11 l (l.length : Int) i) (fun _ => ()) _ (fun i hi hn => ?_) ?_
  · obtain ⟨r0, r1⟩ := hr _ (List.getElem_mem hi)
    refine Ev.step (fun k => ?_) hn
    rw [laws_FnNumbersOf.l1, if_pos (by omega), if_pos (by omega), if_pos (by omega), rd_get _ _ hi, if_neg (by omega), if_neg (by omega), w64_succ hi (by omega)]
  · refine Ev.step (fun k => ?_) h
    rw [laws_FnNumbersOf.l1, if_neg (by omega)]
theorem parts_loop (e : Nat) (he : e + 1 ≤ 3) (l : List Int) (ps : List S62) (hc : ps.length ≤ 400) (hv : ∀ p ∈ ps, VA e p ∧ (txt e p).length ≤ 400) (hn : (ps.flatMap (nums e)).length ≤ 100000) (r : Bool)
    (h : Ev (fun k => laws_FnNumbersOf.l1 k ((e + 1 : Nat) : Int) l (ps.flatMap (nums e)) l (l.length : Int) 0) r) :
    Ev (fun k => laws_FnNumbersOf.l0 k ((e + 1 : Nat) : Int) l [] (ps.map (fun p => ba (txt e p))) ((ps.map (fun p => ba (txt e p))).length : Int) 0) r := by
  rw [List.length_map]
  refine Ev_front ps (fun k acc i => laws_FnNumbersOf.l0 k ((e + 1 : Nat) : Int) l acc (ps.map (fun p => ba (txt e p))) (ps.length : Int) i) (fun m => m.flatMap (nums e)) _ (fun i hi hnext => ?_) ?_
  · obtain ⟨v1, v2⟩ := hv _ (List.getElem_mem hi)
    have hi2 : i < (ps.map (fun p => ba (txt e p))).length := by rw [List.length_map]; exact hi
    have hg : rdOf ByteArray.empty (ps.map (fun p => ba (txt e p))) (i : Int) = ba (txt e ps[i]) := by
      unfold rdOf
      simp [List.getD_eq_getElem?_getD, hi]
    have hno := impl_numbers_ok (ba (txt e ps[i])) e ps[i] (by omega) v1 v2 (arr_full e ps[i] (by omega) v1 v2)
    have hfl := flat_prefix (nums e) ps i hi
    rw [List.flatMap_append, List.flatMap_cons, List.flatMap_nil, List.append_nil] at hnext
    refine Ev.step (f := fun k => (impl_NumbersOf.f k (ba (txt e ps[i])) (e : Int)).bind fun bt => (if ((ps.take i).flatMap (nums e)).length + bt.1.length < 17592186044416 then (laws_FnNumbersOf.l0 k ((e + 1 : Nat) : Int) l ((ps.take i).flatMap (nums e) ++ bt.1) (ps.map (fun p => ba (txt e p))) (ps.length : Int) ((i + 1 : Nat) : Int)) else none)) (fun k => ?_) (Ev.bind hno ?_)
    · rw [laws_FnNumbersOf.l0, if_pos (by omega), if_pos (by omega), if_pos (by rw [List.length_map]; omega), hg, w64_pred (by omega), w64_succ hi (by omega)]
    · have hlt : ((ps.take i).flatMap (nums e)).length + (nums e ps[i]).length < 17592186044416 := by omega
      exact Ev.congr (fun k => if_pos hlt) hnext
  · refine Ev.step (fun k => ?_) h
    rw [laws_FnNumbersOf.l0, if_neg (by omega)]
theorem law_FnNumbersOf : laws_FnNumbersOf.Pure := by
  intro l0 _ _ h0
  refine Ev.rounds ?_
  by_cases hb : (l0.length : Int) > 1048576
  · exact Ev.congr (fun k => by unfold laws_FnNumbersOf.f; rw [if_pos hb]) (Ev.now _)
  obtain ⟨s, dep, hdraw⟩ := drawNumbers_ev l0 (fun x hx => wf_u8 (h0 x hx))
  refine Ev.congr (fun k => by unfold laws_FnNumbersOf.f; rw [if_neg hb]) (Ev.bind hdraw ?_)
  rcases arr_both s dep with ⟨d, n, rfl, hd, hs, hv, ht, h1, h2⟩ | ⟨⟨a, -, h1⟩, h2⟩
  · have hlen : (txt d (tr n)).length ≤ 400 := by
      rw [← ht, Array.length_toList]
      exact hs
    have hnl := nums_le d (tr n)
    have hI := impl_numbers_ok s d (tr n) hd hv hlen h1
    have hS : Ev (fun k => spec_NumbersOf.f k s (d : Int)) (nums d (tr n), true) := by
      refine Ev.congr (fun k => by unfold spec_NumbersOf.f; rfl) (Ev.bind h2 ?_)
      simp only [if_true]
      exact Ev.bind (spec_nums d n (by omega) hv (by omega)) (Ev.now _)
    have hval : Ev (fun k => impl_ArrayValid.f k s (d : Int)) true := Ev.congr (fun k => by unfold impl_ArrayValid.f; rfl) (Ev.bind h1 (Ev.now _))
    have hsame := faSame_ev (nums d (tr n)) (nums d (tr n)) (by omega)
    rw [decide_eq_true rfl] at hsame
    have hrange := nums_range d (tr n) hv
    refine Ev.bind hI (Ev.bind hS (Ev.bind hsame ?_))
    simp only [if_true, bne_self_eq_false, Bool.false_eq_true, if_false]
    refine Ev.bind hval ?_
    simp only [bne_self_eq_false, Bool.false_eq_true, if_false, Bool.not_true]
    match d, hd, hv, hlen, h1, h2, hnl, hsame, hrange with
    | 0, _, _, _, h1, h2, _, hsame, hrange =>
      refine Ev.step (f := _) (fun k => by rw [laws_FnNumbersOf.j0, if_neg (by decide)]) (Ev.bind (parts_none_impl s _ _ _ _ h1 (.inr rfl)) ?_)
      refine Ev.step (f := fun k => laws_FnNumbersOf.l1 k ((0 : Nat) : Int) (nums 0 (tr n)) [] (nums 0 (tr n)) ((nums 0 (tr n)).length : Int) 0) (fun k => by rw [laws_FnNumbersOf.l0, if_neg (by simp)]) ?_
      refine range_loop _ _ _ (by simp [nums]) hrange true ?_
      exact Ev.congr (fun k => by rw [if_pos (show ((0 : Nat) : Int) = 0 from rfl)]; exact if_pos rfl) (Ev.now _)
    | e + 1, hd, hv, hlen, h1, h2, hnl, hsame, hrange =>
      obtain ⟨p1, p2, p3⟩ := (show (∀ p ∈ trs n.f1, VA e p ∧ (txt e p).length ≤ 400) ∧ (trs n.f1).length ≤ 400 ∧ True from by
        have q1 := parts_le e (tr n)
        have q2 := fun p hp => part_le e (tr n) p hp
        have q4 := hv.2
        rw [tr_f1] at q1 q2 q4
        refine ⟨fun p hp => ⟨q4 p hp, ?_⟩, by omega, trivial⟩
        have := q2 p hp
        omega)
      have hnn : nums (e + 1) (tr n) = (trs n.f1).flatMap (nums e) := by
        show (tr n).f1.flatMap (nums e) = _
        rw [tr_f1]
      rw [hnn] at hnl hsame hrange ⊢
      refine Ev.step (f := _) (fun k => by rw [laws_FnNumbersOf.j0, if_neg (by decide)]) (Ev.bind (impl_parts s e n hd hv hlen h1) ?_)
      refine parts_loop e hd _ (trs n.f1) p2 p1 (by omega) true ?_
      refine range_loop _ _ _ (by omega) hrange true ?_
      refine Ev.congr (fun k => by rw [if_neg (show ¬ ((e + 1 : Nat) : Int) = 0 by omega), if_pos (show ((e + 1 : Nat) : Int) > 0 by omega)]) (Ev.bind hsame (Ev.now _))
  · have hI : Ev (fun k => impl_NumbersOf.f k s dep) ([], false) := by
      refine Ev.congr (fun k => by unfold impl_NumbersOf.f; rfl) (Ev.bind h1 ?_)
      simp only [Bool.false_eq_true, if_false]
      exact Ev.now _
    have hS : Ev (fun k => spec_NumbersOf.f k s dep) ([], false) := by
      refine Ev.congr (fun k => by unfold spec_NumbersOf.f; rfl) (Ev.bind h2 ?_)
      simp only [Bool.false_eq_true, if_false]
      exact Ev.now _
    have hval : Ev (fun k => impl_ArrayValid.f k s dep) false := Ev.congr (fun k => by unfold impl_ArrayValid.f; rfl) (Ev.bind h1 (Ev.now _))
    have hsame := faSame_ev [] [] (by simp)
    rw [decide_eq_true rfl] at hsame
    refine Ev.bind hI (Ev.bind hS (Ev.bind hsame ?_))
    simp only [if_true, bne_self_eq_false, Bool.false_eq_true, if_false]
    refine Ev.bind hval ?_
    simp only [bne_self_eq_false, Bool.false_eq_true, if_false, Bool.not_false]
    refine Ev.step (f := _) (fun k => by rw [laws_FnNumbersOf.j0, if_pos rfl]) (Ev.bind hsame ?_)
    simp only [if_true, beq_self_eq_true]
    exact Ev.bind hval (Ev.now _)
end Go.Proofs.YtdhfdepnleioiaaDoor.PA
