/-
MakeArray: for every list of texts and every depth the program answers as the reference does, and the list stays. Plain laws on the printed functions; no memory in them.
-/
import Derived.Test.YtdhfdepnleioiaaDoorArrMake
import Derived.Test.YtdhfdepnleioiaaDoorFA38
import Derived.Test.YtdhfdepnleioiaaDoorFA37
import Derived.Test.YtdhfdepnleioiaaDoorFA39
import Derived.Test.YtdhfdepnleioiaaDoorFA34
import Derived.Test.YtdhfdepnleioiaaDoorFA11
namespace Go.Proofs.YtdhfdepnleioiaaDoor.PA
open Go Go.RowKit Go.Proofs.YtdhfdepnleioiaaDoorW.PrintWords Go.Proofs.YtdhfdepnleioiaaDoorW.PrintLast

def sizes (l : List ByteArray) : Nat := (l.map ByteArray.size).sum
theorem sz_loop (l : List ByteArray) (hl : l.length ≤ 100000000000000) (hs : ∀ s ∈ l, s.size ≤ 9223372036854775807) : ∀ (m i : Nat) (x : Int), l.length - i = m → i ≤ l.length → 0 ≤ x → x ≤ 1048576 →
    ∃ r, Ev (fun k => laws_szStringS.l0 k l x (i : Int)) r ∧ (r < 0 ∨ (sizes (l.drop i) : Int) ≤ x)
  | 0, i, x, hm, hi, h0, h1 => by
    refine ⟨x, Ev.step (f := fun _ => _) (fun k => by rw [laws_szStringS.l0, if_neg (by omega)]) (Ev.now _), .inr ?_⟩
    rw [List.drop_of_length_le (by omega)]
    exact h0
  | m + 1, i, x, hm, hi, h0, h1 => by
    have hlt : i < l.length := by omega
    have hsz := hs _ (List.getElem_mem hlt)
    have hr := rdS l i hlt
    have hw : wrap64 (x - (l[i].size : Int)) = x - (l[i].size : Int) := w64 (by omega) (by omega)
    by_cases hn : x - (l[i].size : Int) < 0
    · refine ⟨-1, Ev.step (f := fun _ => _) (fun k => ?_) (Ev.now _), .inl (by decide)⟩
      rw [laws_szStringS.l0, if_pos (by omega), if_pos (by omega), hr, hw, if_pos hn]
    · obtain ⟨r, h2, h3⟩ := sz_loop l hl hs m (i + 1) (x - (l[i].size : Int)) (by omega) (by omega) (by omega) (by omega)
      refine ⟨r, Ev.step (fun k => ?_) h2, ?_⟩
      · rw [laws_szStringS.l0, if_pos (by omega), if_pos (by omega), hr, hw, if_neg hn, w64_succ hlt (by omega)]
      · rcases h3 with h3 | h3
        · exact .inl h3
        · refine .inr ?_
          rw [List.drop_eq_getElem_cons hlt]
          simp only [sizes, List.map_cons, List.sum_cons] at h3 ⊢
          omega
theorem sz_ev (l : List ByteArray) (hl : l.length ≤ 100000000000000) (hs : ∀ s ∈ l, s.size ≤ 9223372036854775807) : ∃ r, Ev (fun k => laws_szStringS.f k l 1048576) r ∧ (r < 0 ∨ l.length ≤ 1048576 ∧ sizes l ≤ 1048576) := by
  have hw : wrap64 (1048576 - (l.length : Int)) = 1048576 - (l.length : Int) := w64 (by omega) (by omega)
  by_cases hn : 1048576 - (l.length : Int) < 0
  · exact ⟨-1, Ev.congr (fun k => by unfold laws_szStringS.f; rw [hw, if_pos hn]) (Ev.now _), .inl (by decide)⟩
  · obtain ⟨r, h1, h2⟩ := sz_loop l hl hs _ 0 (1048576 - (l.length : Int)) rfl (Nat.zero_le _) (by omega) (by omega)
    refine ⟨r, Ev.congr (fun k => by unfold laws_szStringS.f; rw [hw, if_neg hn]; rfl) h1, ?_⟩
    rw [List.drop_zero] at h2
    rcases h2 with h2 | h2
    · exact .inl h2
    · exact .inr ⟨by omega, by omega⟩
theorem setS_over (l : List ByteArray) (i : Nat) (h : i < l.length) : (l.take i ++ List.replicate (l.length - i) (⟨#[]⟩ : ByteArray)).set i l[i] = (l.take i ++ [l[i]]) ++ List.replicate (l.length - (i + 1)) (⟨#[]⟩ : ByteArray) := by
  have e : List.replicate (l.length - i) (⟨#[]⟩ : ByteArray) = ⟨#[]⟩ :: List.replicate (l.length - (i + 1)) (⟨#[]⟩ : ByteArray) := by
    have : l.length - i = (l.length - (i + 1)) + 1 := by omega
    rw [this, List.replicate_succ]
  have hl : (l.take i).length = i := by rw [List.length_take]; omega
  rw [e, List.set_append_right _ _ (by omega), hl, Nat.sub_self, List.set_cons_zero, List.append_assoc]
  rfl
theorem toStringS_ev (l : List ByteArray) (h : l.length ≤ 1000000000000) : Ev (fun k => laws_toStringS.f k l) l := by
  refine Ev.congr (f := fun k => laws_toStringS.l0 k l ([] ++ List.replicate (l.length - ([] : List ByteArray).length) (⟨#[]⟩ : ByteArray)) 0) (fun k => ?_) ?_
  · unfold laws_toStringS.f
    rw [if_pos (by omega), Int.toNat_natCast, if_pos (by omega)]
    rfl
  refine Ev_front l (fun k (m : List ByteArray) i => laws_toStringS.l0 k l (m ++ List.replicate (l.length - m.length) (⟨#[]⟩ : ByteArray)) i) (fun m => m) _ (fun i hi hn => ?_) ?_
  · have hl : (l.take i).length = i := by rw [List.length_take]; omega
    have hl2 : (l.take i ++ [l[i]]).length = i + 1 := by rw [List.length_append, hl]; rfl
    rw [hl2] at hn
    rw [hl]
    refine Ev.step (fun k => ?_) hn
    rw [laws_toStringS.l0, if_pos (by omega), if_pos (by omega), if_pos (by rw [List.length_append, hl, List.length_replicate]; omega), Int.toNat_natCast, rdS _ _ hi, setS_over l i hi, w64_succ hi (by omega)]
  · refine Ev.step (f := fun _ => _) (fun k => ?_) (Ev.now _)
    rw [laws_toStringS.l0, if_neg (by omega), Nat.sub_self]
    simp
theorem eqStringS_refl (l : List ByteArray) (h : l.length ≤ 100000000000000) : Ev (fun k => laws_eqStringS.f k l l) true := by
  refine Ev.congr (f := fun k => laws_eqStringS.l0 k l l 0) (fun k => by unfold laws_eqStringS.f; rw [if_pos rfl]) ?_
  refine Ev_front l (fun k (_ : Unit) i => laws_eqStringS.l0 k l l i) (fun _ => ()) _ (fun i h2 hn => ?_) ?_
  · refine Ev.step (fun k => ?_) hn
    rw [laws_eqStringS.l0, if_pos (by omega), if_pos (by omega), if_pos (by omega), if_pos rfl, w64_succ h2 (by omega)]
  · exact Ev.step (f := fun _ => _) (fun k => by rw [laws_eqStringS.l0, if_neg (by omega)]) (Ev.now _)
theorem commas_sizes : ∀ l : List ByteArray, (commas (l.map (fun b => b.data.toList))).length ≤ sizes l + l.length
  | [] => by simp [commas_nil]
  | x :: l => by
    have ih := commas_sizes l
    have hx : x.data.toList.length = x.size := by rw [Array.length_toList]; rfl
    rw [List.map_cons, commas_cons, hx]
    simp only [sizes, List.map_cons, List.sum_cons, List.length_cons] at ih ⊢
    by_cases hl : (l.map (fun b => b.data.toList)) = []
    · rw [if_pos hl]; omega
    · rw [if_neg hl]; omega
theorem make_loop (e : Nat) (he : e + 1 ≤ 3) (l : List ByteArray) (hl : l.length ≤ 1048576) (hs : sizes l ≤ 1048576) :
    ∀ (m i : Nat) (ns : List S57), l.length - i = m → i ≤ l.length → ns.length = i → l.take i = (trs ns).map (fun p => ba (txt e p)) → (∀ p ∈ trs ns, VA e p ∧ (txt e p).length ≤ 400) →
      ∃ r b, Ev (fun k => impl_MakeArray.l0 k l ((e + 1 : Nat) : Int) l (l.length : Int) (i : Int)) (r, b) ∧ Ev (fun k => spec_MakeArray.l0 k ((e + 1 : Nat) : Int) l (l.length : Int) (i : Int) 0 ns) (r, b)
  | 0, i, ns, hm, hi, hn, ht, hv => by
    rw [List.take_of_length_le (by omega)] at ht
    have e0 : l.map (fun b => b.data.toList) = (trs ns).map (txt e) := by
      rw [ht, List.map_map]
      exact List.map_congr_left (fun p _ => ba_data _)
    have hcm := commas_sizes l
    rw [e0] at hcm
    have hj : strings_Join.f l ⟨#[44]⟩ = some (ba (commas ((trs ns).map (txt e)))) := by
      unfold strings_Join.f
      rw [if_pos (by omega), e0]
      exact if_pos (by show (commas ((trs ns).map (txt e))).length ≤ _; omega)
    have hS := spec_l1Told_made e he ns hv (by omega) (by omega)
    refine ⟨(made e (trs ns)).1, (made e (trs ns)).2, ?_, ?_⟩
    · refine Ev.step (f := fun _ => some (made e (trs ns))) (fun k => ?_) (Ev.now _)
      have e1 : (⟨#[91]⟩ : ByteArray) = ba [91] := rfl
      have e2 : (⟨#[93]⟩ : ByteArray) = ba [93] := rfl
      have e3 : [91] ++ commas ((trs ns).map (txt e)) ++ [93] = txt (e + 1) ⟨0, trs ns⟩ := by simp [txt]
      rw [impl_MakeArray.l0, if_neg (by omega), hj, Option.bind_some, e1, e2, ba_append, ba_append, ba_size, ba_size, if_pos (by omega), if_pos (by simp only [List.length_append, List.length_singleton]; omega), e3, ba_size]
      unfold made
      by_cases hb : (txt (e + 1) ⟨0, trs ns⟩).length > 400
      · rw [if_pos (by omega), if_pos hb]
      · rw [if_neg (by omega), if_neg hb]
    · refine Ev.step (f := fun k => (spec_l1Told.f k 0 ns ((e + 1 : Nat) : Int)).bind fun bt => some (bt.1, bt.2)) (fun k => by rw [spec_MakeArray.l0, if_neg (by omega)]) (Ev.bind hS (Ev.now _))
  | m + 1, i, ns, hm, hi, hn, ht, hv => by
    have hlt : i < l.length := by omega
    have hr := rdS l i hlt
    have hp := w64_pred (d := e) (by omega)
    have hx := w64_succ hlt (by omega)
    rcases arr_both l[i] (e : Int) with ⟨d, n, hd, hd3, hsz, hva, htx, h1, h2⟩ | ⟨⟨a, -, h1⟩, h2⟩
    · obtain rfl : d = e := by omega
      have hb : l[i] = ba (txt d (tr n)) := by rw [← htx, ba_list]
      have hlen : (txt d (tr n)).length ≤ 400 := by
        rw [← htx, Array.length_toList]
        exact hsz
      have hval : Ev (fun k => impl_ArrayValid.f k l[i] (d : Int)) true := Ev.congr (fun k => by unfold impl_ArrayValid.f; rfl) (Ev.bind h1 (Ev.now _))
      obtain ⟨r, b, h3, h4⟩ := make_loop d he l hl hs m (i + 1) (ns ++ [n]) (by omega) (by omega) (by rw [List.length_append, hn]; rfl) (by
        rw [List.take_add_one, List.getElem?_eq_getElem hlt, ht, trs_append, List.map_append, hb]
        rfl) (fun p hp => by
          rw [trs_append] at hp
          rcases List.mem_append.1 hp with hp | hp
          · exact hv p hp
          · have : p = tr n := by
              have e5 : trs [n] = [tr n] := by rw [trs_map]; rfl
              rw [e5] at hp
              exact List.mem_singleton.1 hp
            rw [this]
            exact ⟨hva, hlen⟩)
      refine ⟨r, b, ?_, ?_⟩
      · refine Ev.step (f := _) (fun k => by rw [impl_MakeArray.l0, if_pos (by omega), if_pos (by omega), if_pos (by omega), hr, hp, hx]) (Ev.bind hval ?_)
        simp only [if_true]
        exact h3
      · refine Ev.step (f := _) (fun k => by rw [spec_MakeArray.l0, if_pos (by omega), if_pos (by omega), if_pos (by omega), hr, hp, hx]) (Ev.bind h2 ?_)
        simp only [if_true]
        refine Ev.congr (fun k => if_pos (by omega)) ?_
        have e6 : (⟨n.f0, n.f1⟩ : S57) = n := by cases n; rfl
        rw [e6]
        exact h4
    · have hval : Ev (fun k => impl_ArrayValid.f k l[i] (e : Int)) false := Ev.congr (fun k => by unfold impl_ArrayValid.f; rfl) (Ev.bind h1 (Ev.now _))
      refine ⟨⟨#[]⟩, false, ?_, ?_⟩
      · refine Ev.step (f := _) (fun k => by rw [impl_MakeArray.l0, if_pos (by omega), if_pos (by omega), if_pos (by omega), hr, hp, hx]) (Ev.bind hval ?_)
        simp only [Bool.false_eq_true, if_false]
        exact Ev.now _
      · refine Ev.step (f := _) (fun k => by rw [spec_MakeArray.l0, if_pos (by omega), if_pos (by omega), if_pos (by omega), hr, hp, hx]) (Ev.bind h2 ?_)
        simp only [Bool.false_eq_true, if_false]
        exact Ev.now _
theorem make_both (l : List ByteArray) (dep : Int) (hl : l.length ≤ 1048576) (hs : sizes l ≤ 1048576) : ∃ r b, Ev (fun k => impl_MakeArray.f k l dep) (r, b) ∧ Ev (fun k => spec_MakeArray.f k l dep) (r, b) := by
  have badI : Ev (fun k => impl_MakeArray.j0 k l dep true) (⟨#[]⟩, false) := Ev.step (f := fun _ => _) (fun k => by rw [impl_MakeArray.j0, if_pos rfl]) (Ev.now _)
  by_cases h1 : dep < 1
  · refine ⟨_, _, Ev.congr (fun k => by unfold impl_MakeArray.f; rw [if_pos h1]) badI, Ev.congr (f := fun _ => some (⟨#[]⟩, false)) (fun k => ?_) (Ev.now _)⟩
    have : spec_l1In.f dep 1 3 = some false := by
      unfold spec_l1In.f
      rw [if_neg (by omega)]
    unfold spec_MakeArray.f
    rw [this, Option.bind_some, if_neg (by decide)]
  by_cases h3 : dep > 3
  · refine ⟨_, _, Ev.congr (fun k => by unfold impl_MakeArray.f; rw [if_neg h1, decide_eq_true h3]) badI, Ev.congr (f := fun _ => some (⟨#[]⟩, false)) (fun k => ?_) (Ev.now _)⟩
    have : spec_l1In.f dep 1 3 = some false := by
      unfold spec_l1In.f
      rw [if_pos (by omega)]
      exact congrArg some (decide_eq_false (by omega))
    unfold spec_MakeArray.f
    rw [this, Option.bind_some, if_neg (by decide)]
  obtain ⟨e, rfl⟩ : ∃ e : Nat, dep = ((e + 1 : Nat) : Int) := ⟨(dep - 1).toNat, by omega⟩
  obtain ⟨r, b, h4, h5⟩ := make_loop e (by omega) l hl hs _ 0 [] rfl (Nat.zero_le _) rfl rfl (fun p hp => by simp [trs] at hp)
  refine ⟨r, b, Ev.congr (f := fun k => impl_MakeArray.j0 k l ((e + 1 : Nat) : Int) false) (fun k => by unfold impl_MakeArray.f; rw [if_neg h1, decide_eq_false h3]) (Ev.step (fun k => by rw [impl_MakeArray.j0, if_neg (by decide)]; rfl) h4), Ev.congr (fun k => ?_) h5⟩
  have : spec_l1In.f ((e + 1 : Nat) : Int) 1 3 = some true := by
    unfold spec_l1In.f
    rw [if_pos (by omega)]
    exact congrArg some (decide_eq_true (by omega))
  unfold spec_MakeArray.f
  rw [this, Option.bind_some, if_pos rfl]
  rfl
def MakePure : Prop := ∀ (l0 : List ByteArray) (a1 : Int), l0.length * 16 ≤ 140737488351232 → (∀ s ∈ l0, s.size ≤ maxLen) → (Lit.int .i64 a1).wf = true → ∃ k, laws_FnExactMakeArray.f k l0 a1 = some true
theorem law_MakeArray : MakePure := by
  intro l dep h16 hsz _
  refine Ev.rounds ?_
  obtain ⟨r, h1, h2⟩ := sz_ev l (by omega) (fun s hs => Nat.le_trans (hsz s hs) (by decide))
  refine Ev.congr (fun k => by unfold laws_FnExactMakeArray.f; rfl) (Ev.bind h1 ?_)
  by_cases hr : r < 0
  · simp only [hr, if_true]
    exact Ev.now _
  rcases h2 with h2 | ⟨h2, h3⟩
  · exact absurd h2 hr
  simp only [hr, if_false]
  have ht := toStringS_ev l (by omega)
  obtain ⟨x, b, h4, h5⟩ := make_both l dep h2 h3
  refine Ev.bind ht (Ev.bind h5 (Ev.bind ht (Ev.bind h4 ?_)))
  simp only [if_true, bne_self_eq_false]
  refine Ev.step (f := _) (fun k => by rw [laws_FnExactMakeArray.j0, if_neg (by decide)]) (Ev.bind ht (Ev.bind (eqStringS_refl l (by omega)) ?_))
  simp only [if_true]
  exact Ev.now _
end Go.Proofs.YtdhfdepnleioiaaDoor.PA
