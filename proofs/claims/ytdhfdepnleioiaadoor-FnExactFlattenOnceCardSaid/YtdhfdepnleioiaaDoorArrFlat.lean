/-
FlattenOnce: for every input the program answers as the reference does. Plain laws on the printed functions; no memory in them.
-/
import Derived.Test.YtdhfdepnleioiaaDoorArrText
import Derived.Test.YtdhfdepnleioiaaDoorFA41
import Derived.Test.YtdhfdepnleioiaaDoorFA42
import Derived.Test.YtdhfdepnleioiaaDoorFA12
namespace Go.Proofs.YtdhfdepnleioiaaDoor.PA
open Go Go.RowKit Go.Proofs.YtdhfdepnleioiaaDoorW.PrintWords Go.Proofs.YtdhfdepnleioiaaDoorW.PrintLast

/-- The parts of an array's parts, one behind the other. -/
def flat (ps : List S62) : List S62 := ps.flatMap (fun p => p.f1)
theorem commas_app (xs ys : List (List UInt8)) : (commas (xs ++ ys)).length ≤ (commas xs).length + 1 + (commas ys).length := by
  induction xs with
  | nil => simp [commas_nil]
  | cons x xs ih =>
    rw [List.cons_append, commas_cons, commas_cons]
    by_cases h : xs = []
    · subst h
      rw [List.nil_append, if_pos rfl]
      by_cases hy : ys = []
      · rw [if_pos hy]; omega
      · rw [if_neg hy]; omega
    · rw [if_neg h, if_neg (by simp [h])]
      omega
theorem flat_commas (e : Nat) : ∀ ps : List S62, (commas ((flat ps).map (txt e))).length ≤ (commas (ps.map (txt (e + 1)))).length
  | [] => by simp [flat, commas_nil]
  | p :: r => by
    have ih := flat_commas e r
    have h1 : (flat (p :: r)).map (txt e) = p.f1.map (txt e) ++ (flat r).map (txt e) := by simp [flat]
    have h2 := commas_app (p.f1.map (txt e)) ((flat r).map (txt e))
    rw [h1, List.map_cons, commas_cons, txt_succ_length]
    by_cases hr : r = []
    · subst hr
      have h3 : (flat []).map (txt e) = [] := rfl
      rw [h3, List.append_nil]
      omega
    · rw [if_neg (by simp [hr])]
      omega
theorem flat_txt (e : Nat) (a : S62) : (txt (e + 1) ⟨0, flat a.f1⟩).length ≤ (txt (e + 2) a).length := by
  have := flat_commas e a.f1
  rw [txt_succ_length, txt_succ_length (e + 1)]
  exact Nat.add_le_add_right this 2
theorem flat_va (e : Nat) (a : S62) (h : VA (e + 2) a) : VA (e + 1) ⟨0, flat a.f1⟩ := by
  refine ⟨rfl, fun p hp => ?_⟩
  obtain ⟨q, hq, hpq⟩ := List.mem_flatMap.1 hp
  exact (h.2 q hq).2 p hpq
theorem flat_len (e : Nat) (a : S62) : (flat a.f1).length + 2 ≤ (txt (e + 2) a).length := by
  have h1 := parts_le e ⟨0, flat a.f1⟩
  have h2 := flat_txt e a
  exact Nat.le_trans h1 h2
/-- The same on the reference's side. -/
def flatN (ps : List S57) : List S57 := ps.flatMap (fun p => p.f1)
theorem trs_flat (ps : List S57) : trs (flatN ps) = flat (trs ps) := by
  induction ps with
  | nil => rfl
  | cons p r ih =>
    have h1 : flatN (p :: r) = p.f1 ++ flatN r := by simp [flatN]
    have h2 : flat (trs (p :: r)) = trs p.f1 ++ flat (trs r) := by
      show flat (tr p :: trs r) = _
      simp [flat, tr_f1]
    rw [h1, h2, trs_append, ih]
theorem flat_snoc (l : List S62) (p : S62) : flat (l ++ [p]) = flat l ++ p.f1 := by simp [flat]
theorem flatN_snoc (l : List S57) (p : S57) : flatN (l ++ [p]) = flatN l ++ p.f1 := by simp [flatN]
theorem impl_flat (s : ByteArray) (e : Nat) (a : S62) (hd : e + 2 ≤ 3) (hv : VA (e + 2) a) (hl : (txt (e + 2) a).length ≤ 400) (h1 : Ev (fun k => impl_arrOf.f k s ((e + 2 : Nat) : Int)) (a.f0, a.f1, true)) :
    Ev (fun k => impl_FlattenOnce.f k s ((e + 2 : Nat) : Int)) (ba (txt (e + 1) ⟨0, flat a.f1⟩), true) := by
  have hps : a.f1.length + 2 ≤ (txt (e + 2) a).length := parts_le (e + 1) a
  have hfl := flat_len e a
  have hft := flat_txt e a
  refine Ev.congr (fun k => by unfold impl_FlattenOnce.f; rfl) (Ev.bind h1 ?_)
  have hz : decide (((e + 2 : Nat) : Int) < 2) = false := decide_eq_false (by omega)
  simp only [if_true, hz]
  refine Ev.step (f := fun k => impl_FlattenOnce.l0 k ((e + 2 : Nat) : Int) a.f1 (a.f1.length : Int) 0 0 (flat [])) (fun k => by rw [impl_FlattenOnce.j0]; rfl) ?_
  refine Ev_front a.f1 (fun k acc i => impl_FlattenOnce.l0 k ((e + 2 : Nat) : Int) a.f1 (a.f1.length : Int) i 0 acc) (fun l => flat l) _ (fun i h hnext => ?_) ?_
  · have hf := flat_prefix (fun p : S62 => p.f1) a.f1 i h
    have hf2 : (flat (a.f1.take i)).length + (a.f1[i]).f1.length ≤ (flat a.f1).length := hf
    rw [flat_snoc] at hnext
    refine Ev.step (fun k => ?_) hnext
    rw [impl_FlattenOnce.l0, if_pos (by omega), if_pos (by omega), if_pos (by omega), rd62 _ _ h, if_pos (by omega), w64_succ h (by omega)]
  · have ht := impl_text (e + 1) ⟨0, flat a.f1⟩ (by omega) (flat_va e a hv) (by omega)
    refine Ev.step (f := fun k => (impl_arr_short.f k 0 (flat a.f1) ((e + 1 : Nat) : Int)).bind fun bt => some (bt.1, bt.2)) (fun k => ?_) ?_
    · rw [impl_FlattenOnce.l0, if_neg (by omega)]
      have hw : wrap64 (((e + 2 : Nat) : Int) - 1) = ((e + 1 : Nat) : Int) := w64_pred (d := e + 1) (by omega)
      rw [hw]
    · refine Ev.bind (a := (ba (txt (e + 1) ⟨0, flat a.f1⟩), true)) (Ev.congr (fun k => by unfold impl_arr_short.f; rfl) (Ev.bind ht ?_)) (Ev.now _)
      have hz : ¬ (((ba (txt (e + 1) ⟨0, flat a.f1⟩)).size : Int) > 400) := by rw [ba_size]; omega
      exact Ev.congr (fun k => if_neg hz) (Ev.now _)
theorem spec_flat (s : ByteArray) (e : Nat) (n : S57) (hd : e + 2 ≤ 3) (hv : VA (e + 2) (tr n)) (hl : (txt (e + 2) (tr n)).length ≤ 400) (h1 : Ev (fun k => spec_l1Read.f k s ((e + 2 : Nat) : Int)) (n.f0, n.f1, true)) :
    Ev (fun k => spec_FlattenOnce.f k s ((e + 2 : Nat) : Int)) (ba (txt (e + 1) ⟨0, flat (tr n).f1⟩), true) := by
  have hps : (tr n).f1.length + 2 ≤ (txt (e + 2) (tr n)).length := parts_le (e + 1) (tr n)
  have hfl := flat_len e (tr n)
  have hft := flat_txt e (tr n)
  have hva := flat_va e (tr n) hv
  have htr : (⟨0, flat (tr n).f1⟩ : S62) = tr ⟨0, flatN n.f1⟩ := by
    show _ = (⟨0, trs (flatN n.f1)⟩ : S62)
    rw [trs_flat, tr_f1]
  rw [htr] at hft hva ⊢
  rw [tr_f1, trs_length] at hps
  rw [tr_f1, ← trs_flat, trs_length] at hfl
  refine Ev.congr (fun k => by unfold spec_FlattenOnce.f; rfl) (Ev.bind h1 ?_)
  have hz : decide (((e + 2 : Nat) : Int) < 2) = false := decide_eq_false (by omega)
  simp only [if_true, hz]
  refine Ev.step (f := fun k => spec_FlattenOnce.l0 k ((e + 2 : Nat) : Int) n.f1 (n.f1.length : Int) 0 0 (flatN [])) (fun k => by rw [spec_FlattenOnce.j0]; rfl) ?_
  refine Ev_front n.f1 (fun k acc i => spec_FlattenOnce.l0 k ((e + 2 : Nat) : Int) n.f1 (n.f1.length : Int) i 0 acc) (fun l => flatN l) _ (fun i h hnext => ?_) ?_
  · have hf := flat_prefix (fun p : S57 => p.f1) n.f1 i h
    have hf2 : (flatN (n.f1.take i)).length + (n.f1[i]).f1.length ≤ (flatN n.f1).length := hf
    rw [flatN_snoc] at hnext
    refine Ev.step (fun k => ?_) hnext
    rw [spec_FlattenOnce.l0, if_pos (by omega), if_pos (by omega), if_pos (by omega), rd57 _ _ h, if_pos (by omega), w64_succ h (by omega)]
  · have ht := spec_text (e + 1) ⟨0, flatN n.f1⟩ (by omega) hva (by omega)
    refine Ev.step (f := fun k => (spec_l1Text.f k 0 (flatN n.f1) ((e + 1 : Nat) : Int)).bind fun t => some (t, true)) (fun k => ?_) (Ev.bind ht (Ev.now _))
    rw [spec_FlattenOnce.l0, if_neg (by omega)]
    have hw : wrap64 (((e + 2 : Nat) : Int) - 1) = ((e + 1 : Nat) : Int) := w64_pred (d := e + 1) (by omega)
    rw [hw]
theorem flat_none_impl (s : ByteArray) (dep : Int) (x : Int) (y : List S62) (b : Bool) (h : Ev (fun k => impl_arrOf.f k s dep) (x, y, b)) (hb : b = false ∨ dep < 2) : Ev (fun k => impl_FlattenOnce.f k s dep) (⟨#[]⟩, false) := by
  refine Ev.congr (fun k => by unfold impl_FlattenOnce.f; rfl) (Ev.bind h ?_)
  refine Ev.congr (f := fun k => impl_FlattenOnce.j0 k dep true x y) (fun k => ?_) (Ev.step (f := fun _ => _) (fun k => by rw [impl_FlattenOnce.j0, if_pos rfl]) (Ev.now _))
  rcases hb with rfl | hb
  · rfl
  · rw [decide_eq_true hb]
    cases b <;> rfl
theorem flat_none_spec (s : ByteArray) (dep : Int) (x : Int) (y : List S57) (b : Bool) (h : Ev (fun k => spec_l1Read.f k s dep) (x, y, b)) (hb : b = false ∨ dep < 2) : Ev (fun k => spec_FlattenOnce.f k s dep) (⟨#[]⟩, false) := by
  refine Ev.congr (fun k => by unfold spec_FlattenOnce.f; rfl) (Ev.bind h ?_)
  refine Ev.congr (f := fun k => spec_FlattenOnce.j0 k dep true x y) (fun k => ?_) (Ev.step (f := fun _ => _) (fun k => by rw [spec_FlattenOnce.j0, if_pos rfl]) (Ev.now _))
  rcases hb with rfl | hb
  · rfl
  · rw [decide_eq_true hb]
    cases b <;> rfl
theorem flat_both (s : ByteArray) (dep : Int) : ∃ t b, Ev (fun k => impl_FlattenOnce.f k s dep) (t, b) ∧ Ev (fun k => spec_FlattenOnce.f k s dep) (t, b) := by
  rcases arr_both s dep with ⟨d, n, rfl, hd, hs, hv, ht, h1, h2⟩ | ⟨⟨a, -, h1⟩, h2⟩
  · have hlen : (txt d (tr n)).length ≤ 400 := by
      rw [← ht, Array.length_toList]
      exact hs
    match d, hd, hv, hlen, h1, h2 with
    | 0, _, _, _, h1, h2 => exact ⟨_, _, flat_none_impl _ _ _ _ _ h1 (.inr (by decide)), flat_none_spec _ _ _ _ _ h2 (.inr (by decide))⟩
    | 1, _, _, _, h1, h2 => exact ⟨_, _, flat_none_impl _ _ _ _ _ h1 (.inr (by decide)), flat_none_spec _ _ _ _ _ h2 (.inr (by decide))⟩
    | e + 2, hd, hv, hlen, h1, h2 => exact ⟨_, _, impl_flat s e (tr n) hd hv hlen h1, spec_flat s e n hd hv hlen h2⟩
  · exact ⟨_, _, flat_none_impl _ _ _ _ _ h1 (.inl rfl), flat_none_spec _ _ _ _ _ h2 (.inl rfl)⟩
theorem law_FlattenOnce : laws_FnExactFlattenOnce.Pure := by
  intro s dep _ _
  refine Ev.rounds ?_
  by_cases hb : (s.size : Int) > 1048576
  · exact Ev.congr (fun k => by unfold laws_FnExactFlattenOnce.f; rw [if_pos hb]) (Ev.now _)
  · obtain ⟨t, b, h1, h2⟩ := flat_both s dep
    refine Ev.congr (fun k => by unfold laws_FnExactFlattenOnce.f; rw [if_neg hb]) (Ev.bind h2 (Ev.bind h1 ?_))
    simp only [if_true, bne_self_eq_false, Bool.false_eq_true, if_false]
    exact Ev.now _
end Go.Proofs.YtdhfdepnleioiaaDoor.PA
