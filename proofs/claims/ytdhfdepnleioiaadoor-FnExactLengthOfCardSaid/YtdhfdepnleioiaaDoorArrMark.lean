/-
The laws' own helpers over slices of numbers and of texts: equal lists are found equal, and marks that were laid are found held. Plain laws on the printed functions; no memory in them.
-/
import Derived.Test.YtdhfdepnleioiaaDoorArrText
import Derived.Test.YtdhfdepnleioiaaDoorFA23
import Derived.Test.YtdhfdepnleioiaaDoorFA24
import Derived.Test.YtdhfdepnleioiaaDoorFA25
import Derived.Test.YtdhfdepnleioiaaDoorFA34
import Derived.Test.YtdhfdepnleioiaaDoorFA58
import Derived.Test.YtdhfdepnleioiaaDoorFA35
import Derived.Test.YtdhfdepnleioiaaDoorFA36
namespace Go.Proofs.YtdhfdepnleioiaaDoor.PA
open Go Go.RowKit Go.Proofs.YtdhfdepnleioiaaDoorW.PrintWords Go.Proofs.YtdhfdepnleioiaaDoorW.PrintLast

theorem eqIntS_same (l : List Int) (h : l.length ≤ 100000000000000) : Ev (fun k => laws_eqIntS.f k l l) true := by
  refine Ev.congr (f := fun k => laws_eqIntS.l0 k l l 0) (fun k => by unfold laws_eqIntS.f; rw [if_pos rfl]) ?_
  refine Ev_front l (fun k (_ : Unit) i => laws_eqIntS.l0 k l l i) (fun _ => ()) _ (fun i h2 hn => ?_) ?_
  · refine Ev.step (fun k => ?_) hn
    rw [laws_eqIntS.l0, if_pos (by omega), if_pos (by omega), if_pos (by omega), if_pos rfl, w64_succ h2 (by omega)]
  · exact Ev.step (f := fun _ => _) (fun k => by rw [laws_eqIntS.l0, if_neg (by omega)]) (Ev.now _)
theorem eqStringS_same (l : List ByteArray) (h : l.length ≤ 100000000000000) : Ev (fun k => laws_eqStringS.f k l l) true := by
  refine Ev.congr (f := fun k => laws_eqStringS.l0 k l l 0) (fun k => by unfold laws_eqStringS.f; rw [if_pos rfl]) ?_
  refine Ev_front l (fun k (_ : Unit) i => laws_eqStringS.l0 k l l i) (fun _ => ()) _ (fun i h2 hn => ?_) ?_
  · refine Ev.step (fun k => ?_) hn
    rw [laws_eqStringS.l0, if_pos (by omega), if_pos (by omega), if_pos (by omega), if_pos rfl, w64_succ h2 (by omega)]
  · exact Ev.step (f := fun _ => _) (fun k => by rw [laws_eqStringS.l0, if_neg (by omega)]) (Ev.now _)
/-- The marks of a list: from a number on, one more at each place. -/
def marks (a : Int) (n : Nat) : List Int := (List.range n).map (fun j : Nat => a + (j : Int))
theorem marks_length (a : Int) (n : Nat) : (marks a n).length = n := by simp [marks]
theorem marks_succ (a : Int) (n : Nat) : marks a (n + 1) = marks a n ++ [a + (n : Int)] := by simp [marks, List.range_succ]
theorem set_next {α : Type} (xs l : List α) (i : Nat) (v : α) (hx : xs.length = i) (h : i < l.length) : (xs ++ l.drop i).set i v = (xs ++ [v]) ++ l.drop (i + 1) := by
  subst hx
  rw [List.drop_eq_getElem_cons h, List.set_append_right _ _ (Nat.le_refl _), Nat.sub_self, List.set_cons_zero, List.append_assoc]
  rfl
theorem w64_add {a : Int} {i : Nat} (h0 : 0 ≤ a) (h1 : a ≤ 1000000000000000) (h : i ≤ 100000000000000) : wrap64 (a + (i : Int) + 1) = a + ((i + 1 : Nat) : Int) := by rw [w64 (by omega) (by omega)]; omega
theorem markIntS_marks (l : List Int) (a : Int) (h0 : 0 ≤ a) (h1 : a ≤ 1000000000000000) (h : l.length ≤ 100000000000000) : Ev (fun k => laws_markIntS.f k l a) (a + (l.length : Int), marks a l.length) := by
  refine Ev.congr (f := fun k => laws_markIntS.l0 k (marks a 0 ++ l.drop 0) (a + ((0 : Nat) : Int)) 0) (fun k => by unfold laws_markIntS.f; simp [marks]) ?_
  refine Ev_front l (fun k (x : Nat) i => laws_markIntS.l0 k (marks a x ++ l.drop x) (a + (x : Int)) i) (fun l => l.length) _ (fun i h2 hn => ?_) ?_
  · have e1 : (l.take i).length = i := by rw [List.length_take]; omega
    have e2 : (l.take i ++ [l[i]]).length = i + 1 := by rw [List.length_append, e1]; rfl
    rw [e2] at hn
    rw [e1]
    refine Ev.step (fun k => ?_) hn
    rw [laws_markIntS.l0, if_pos (by rw [List.length_append, marks_length, List.length_drop]; omega), if_pos (by omega), Int.toNat_natCast, set_next _ _ _ _ (marks_length _ _) h2, ← marks_succ, w64_add h0 h1 (by omega), w64_succ h2 (by omega)]
  · refine Ev.step (f := fun _ => _) (fun k => ?_) (Ev.now _)
    rw [laws_markIntS.l0, if_neg (by rw [List.length_append, marks_length, List.length_drop]; omega), List.drop_length, List.append_nil]
theorem rd_marks (a : Int) (n i : Nat) (h : i < n) : rd (marks a n) (i : Int) = a + (i : Int) := by
  unfold rd marks
  simp [List.getD_eq_getElem?_getD, h]
theorem heldIntS_marks (a : Int) (n : Nat) (h0 : 0 ≤ a) (h1 : a ≤ 1000000000000000) (h : n ≤ 100000000000000) : Ev (fun k => laws_heldIntS.f k (marks a n) a) (a + (n : Int)) := by
  refine Ev.congr (f := fun k => laws_heldIntS.l0 k (marks a n) (a + ((0 : Nat) : Int)) 0) (fun k => by unfold laws_heldIntS.f; simp) ?_
  have hl := marks_length a n
  refine Ev_front (marks a n) (fun k (x : Nat) i => laws_heldIntS.l0 k (marks a n) (a + (x : Int)) i) (fun l => l.length) _ (fun i h2 hn => ?_) ?_
  · have e1 : ((marks a n).take i).length = i := by rw [List.length_take]; omega
    have e2 : ((marks a n).take i ++ [(marks a n)[i]]).length = i + 1 := by rw [List.length_append, e1]; rfl
    rw [e2] at hn
    rw [e1]
    refine Ev.step (fun k => ?_) hn
    rw [laws_heldIntS.l0, if_pos (by omega), if_pos (by omega), rd_marks _ _ _ (by omega), if_pos rfl, w64_add h0 h1 (by omega), w64_succ h2 (by omega)]
  · refine Ev.step (f := fun _ => _) (fun k => ?_) (Ev.now _)
    rw [laws_heldIntS.l0, if_neg (by omega), hl]
/-! ### texts as marks -/
theorem markText_loop : ∀ (m u : Nat) (acc : ByteArray), u ≤ m → u ≤ 9223372036854775807 → acc.size + u ≤ 1000000000000000000 → ∃ b, Ev (fun k => laws_markText.l0 k (u : Int) acc) b
  | 0, u, acc, hu, _, hs => by
    obtain rfl : u = 0 := by omega
    refine ⟨⟨#[109]⟩ ++ acc, Ev.step (f := fun _ => _) (fun k => ?_) (Ev.now _)⟩
    have h9 : ¬ (((0 : Nat) : Int) > 0) := by decide
    rw [laws_markText.l0, if_neg h9, if_pos (by omega)]
  | m + 1, u, acc, hu, hb, hs => by
    by_cases h : (u : Int) > 0
    · have hd : wrap64 (Int.tdiv (u : Int) 10) = ((u / 10 : Nat) : Int) := by rw [Int.tdiv_eq_ediv_of_nonneg (by omega), w64 (by omega) (by omega)]; omega
      obtain ⟨b, hb⟩ := markText_loop m (u / 10) (strOfNums [wrap64 (48 + Int.tmod (u : Int) 10) % 256] ++ acc) (by omega) (by omega) (by rw [ByteArray.size_append, strOfNums_size]; simp only [List.length_singleton]; omega)
      refine ⟨b, Ev.step (fun k => ?_) hb⟩
      rw [laws_markText.l0, if_pos h, Option.bind_some, if_pos (by rw [strOfNums_size]; simp only [List.length_singleton]; omega), hd]
    · refine ⟨⟨#[109]⟩ ++ acc, Ev.step (f := fun _ => _) (fun k => ?_) (Ev.now _)⟩
      rw [laws_markText.l0, if_neg h, if_pos (by omega)]
theorem markText_ex (u : Nat) (h : u ≤ 1000000000000000) : ∃ b, Ev (fun k => laws_markText.f k (u : Int)) b := by
  by_cases h0 : (u : Int) ≤ 0
  · exact ⟨_, Ev.congr (fun k => by unfold laws_markText.f; rw [if_pos h0]) (Ev.now _)⟩
  · obtain ⟨b, hb⟩ := markText_loop u u ⟨#[]⟩ (Nat.le_refl _) (by omega) (by simp [ByteArray.size]; omega)
    exact ⟨b, Ev.congr (fun k => by unfold laws_markText.f; rw [if_neg h0]) hb⟩
noncomputable def mtx (u : Nat) : ByteArray := if h : u ≤ 1000000000000000 then Classical.choose (markText_ex u h) else ⟨#[]⟩
theorem mtx_ev (u : Nat) (h : u ≤ 1000000000000000) : Ev (fun k => laws_markText.f k (u : Int)) (mtx u) := by
  unfold mtx
  rw [dif_pos h]
  exact Classical.choose_spec (markText_ex u h)
noncomputable def tmarks (a n : Nat) : List ByteArray := (List.range n).map (fun j => mtx (a + j))
theorem tmarks_length (a : Nat) (n : Nat) : (tmarks a n).length = n := by simp [tmarks]
theorem tmarks_succ (a : Nat) (n : Nat) : tmarks a (n + 1) = tmarks a n ++ [mtx (a + n)] := by simp [tmarks, List.range_succ]
theorem w64_addN {a i : Nat} (h1 : a ≤ 100000000000000) (h : i ≤ 100000000000000) : wrap64 (((a + i : Nat) : Int) + 1) = ((a + (i + 1) : Nat) : Int) := by rw [w64 (by omega) (by omega)]; omega
theorem markStringS_marks (l : List ByteArray) (a : Nat) (h1 : a ≤ 100000000000000) (h : l.length ≤ 100000000000000) : Ev (fun k => laws_markStringS.f k l (a : Int)) (((a + l.length : Nat) : Int), tmarks a l.length) := by
  refine Ev.congr (f := fun k => laws_markStringS.l0 k (tmarks a 0 ++ l.drop 0) ((a + 0 : Nat) : Int) 0) (fun k => by unfold laws_markStringS.f; simp [tmarks]) ?_
  refine Ev_front l (fun k (x : Nat) i => laws_markStringS.l0 k (tmarks a x ++ l.drop x) ((a + x : Nat) : Int) i) (fun l => l.length) _ (fun i h2 hn => ?_) ?_
  · have e1 : (l.take i).length = i := by rw [List.length_take]; omega
    have e2 : (l.take i ++ [l[i]]).length = i + 1 := by rw [List.length_append, e1]; rfl
    rw [e2] at hn
    rw [e1]
    refine Ev.step (f := fun k => (laws_markText.f k ((a + i : Nat) : Int)).bind fun t => (laws_markStringS.l0 k ((tmarks a i ++ [t]) ++ l.drop (i + 1)) ((a + (i + 1) : Nat) : Int) ((i + 1 : Nat) : Int))) (fun k => ?_) (Ev.bind (mtx_ev _ (by omega)) ?_)
    · rw [laws_markStringS.l0, if_pos (by rw [List.length_append, tmarks_length, List.length_drop]; omega)]
      congr 1
      funext t
      rw [if_pos (by omega), Int.toNat_natCast, set_next _ _ _ _ (tmarks_length _ _) h2, w64_addN h1 (by omega), w64_succ h2 (by omega)]
    · rw [← tmarks_succ]
      exact hn
  · refine Ev.step (f := fun _ => _) (fun k => ?_) (Ev.now _)
    rw [laws_markStringS.l0, if_neg (by rw [List.length_append, tmarks_length, List.length_drop]; omega), List.drop_length, List.append_nil]
theorem rd_tmarks (a n i : Nat) (h : i < n) : rdOf ByteArray.empty (tmarks a n) (i : Int) = mtx (a + i) := by
  unfold rdOf tmarks
  simp [List.getD_eq_getElem?_getD, h]
theorem heldStringS_marks (a n : Nat) (h1 : a ≤ 100000000000000) (h : n ≤ 100000000000000) : Ev (fun k => laws_heldStringS.f k (tmarks a n) (a : Int)) ((a + n : Nat) : Int) := by
  refine Ev.congr (f := fun k => laws_heldStringS.l0 k (tmarks a n) ((a + 0 : Nat) : Int) 0) (fun k => by unfold laws_heldStringS.f; simp) ?_
  have hl := tmarks_length a n
  refine Ev_front (tmarks a n) (fun k (x : Nat) i => laws_heldStringS.l0 k (tmarks a n) ((a + x : Nat) : Int) i) (fun l => l.length) _ (fun i h2 hn => ?_) ?_
  · have e1 : ((tmarks a n).take i).length = i := by rw [List.length_take]; omega
    have e2 : ((tmarks a n).take i ++ [(tmarks a n)[i]]).length = i + 1 := by rw [List.length_append, e1]; rfl
    rw [e2] at hn
    rw [e1]
    refine Ev.step (f := fun k => (laws_markText.f k ((a + i : Nat) : Int)).bind fun t => (if (mtx (a + i)).toList = t.toList then (laws_heldStringS.l0 k (tmarks a n) ((a + (i + 1) : Nat) : Int) ((i + 1 : Nat) : Int)) else some (-1))) (fun k => ?_) (Ev.bind (mtx_ev _ (by omega)) ?_)
    · rw [laws_heldStringS.l0, if_pos (by omega), if_pos (by omega), rd_tmarks _ _ _ (by omega), w64_addN h1 (by omega), w64_succ h2 (by omega)]
    · exact Ev.congr (fun k => if_pos rfl) hn
  · refine Ev.step (f := fun _ => _) (fun k => ?_) (Ev.now _)
    rw [laws_heldStringS.l0, if_neg (by omega), hl]
end Go.Proofs.YtdhfdepnleioiaaDoor.PA
