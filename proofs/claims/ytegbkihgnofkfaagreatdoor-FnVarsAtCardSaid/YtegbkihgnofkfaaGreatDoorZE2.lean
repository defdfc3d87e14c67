/-
Texts Ev14 to Ev19 of the work.
-/
import Derived.Test.YtegbkihgnofkfaaGreatDoorZE1
/-
The engine, part 14: one operation, all kinds.
-/
namespace Go.Proofs.YtegbkihgnofkfaaGreatDoor.Ev
section
set_option linter.unusedVariables false
set_option linter.unusedSimpArgs false
open Go Go.RowKit
set_option linter.unusedVariables false
set_option linter.unusedSimpArgs false
variable {P : Program} {I : Tab} {w : World} {g : G} {σ : Sto} {e : Nat → AV} {a : Act}

theorem deepC_get {f : AV → Option (AV × List Nat)} : ∀ {xs ys : List AV} {is : List Nat}, deepC f xs = some (ys, is) →
    ys.length = xs.length ∧ ∀ (j : Nat) (x : AV), xs[j]? = some x → ∃ y js, ys[j]? = some y ∧ f x = some (y, js) ∧ ∀ i ∈ js, i ∈ is
  | [], ys, is, h => by
    simp only [deepC, Option.some.injEq, Prod.mk.injEq] at h
    obtain ⟨rfl, rfl⟩ := h
    exact ⟨rfl, fun j x hj => by simp at hj⟩
  | x :: xs, ys, is, h => by
    simp only [deepC] at h
    obtain ⟨⟨y, js⟩, h1, h⟩ := Option.bind_eq_some_iff.1 h
    obtain ⟨⟨ys', ks⟩, h2, h⟩ := Option.map_eq_some_iff.1 h
    simp only [Prod.mk.injEq] at h
    obtain ⟨rfl, rfl⟩ := h
    obtain ⟨k1, k2⟩ := deepC_get h2
    refine ⟨by simp [k1], fun j z hj => ?_⟩
    cases j with
    | zero =>
      simp only [List.getElem?_cons_zero, Option.some.injEq] at hj
      subst hj
      exact ⟨y, js, rfl, h1, fun i hi => List.mem_append_left _ hi⟩
    | succ j =>
      obtain ⟨z', ls, e1, e2, e3⟩ := k2 j z (by simpa using hj)
      exact ⟨z', ls, by simpa using e1, e2, fun i hi => List.mem_append_right _ (e3 i hi)⟩

theorem closedL_of : ∀ (ds : List AV), (∀ (j : Nat) (c : AV), ds[j]? = some c → closed c = true) → closedL ds = true
  | [], _ => rfl
  | d :: ds, h => by
    simp only [closedL, Bool.and_eq_true]
    exact ⟨h 0 d rfl, closedL_of ds fun j c hj => h (j + 1) c (by simpa using hj)⟩

theorem closedL_sub {cs ds : List AV} (h : closedL cs = true) (hs : ∀ (j : Nat) (c : AV), ds[j]? = some c → ∃ k : Nat, cs[k]? = some c) : closedL ds = true :=
  closedL_of ds fun j c hj => by
    obtain ⟨k, hk⟩ := hs j c hj
    exact closedL_mem cs h k c hk

theorem get_cut {cs : List AV} {lo n j : Nat} {c : AV} (h : ((cs.drop lo).take n)[j]? = some c) : cs[lo + j]? = some c ∧ j < n := by
  rw [List.getElem?_take] at h
  split at h
  · rw [List.getElem?_drop] at h
    exact ⟨h, ‹_›⟩
  · cases h

theorem deep_sound (hv : Inv w g σ) (V : Nat → Prop) (h1 : ∀ b, g.V b → V b) : ∀ (d : Nat) (x y : AV) (u : Value) (is : List Nat), Rep w g x u → deep σ d x = some (y, is) →
    (∀ i ∈ is, ∀ s, σ i = some s → ∀ b, blockOf g i s = some b → V b) → closed y = true ∧ Rep w (gV V) y u := by
  have leaf : ∀ {x y : AV} {u : Value} {is : List Nat}, Rep w g x u → (if closed x then some (x, ([] : List Nat)) else none) = some (y, is) → closed y = true ∧ Rep w (gV V) y u := by
    intro x y u is hx h
    split at h
    · rename_i hc
      simp only [Option.some.injEq, Prod.mk.injEq] at h
      obtain ⟨rfl, rfl⟩ := h
      exact ⟨hc, hx.closed_to hc h1⟩
    · cases h
  intro d
  induction d with
  | zero => exact fun x y u is hx h _ => leaf hx h
  | succ d ih =>
    intro x y u is hx h h2
    simp only [deep] at h
    split at h
    · -- a row
      rename_i id lo n
      split at h
      · rename_i E sz n0 cs hs
        split at h
        · rename_i hle
          obtain ⟨⟨ds, js⟩, hd, h⟩ := Option.map_eq_some_iff.1 h
          simp only [Prod.mk.injEq] at h
          obtain ⟨rfl, rfl⟩ := h
          obtain ⟨k1, k2⟩ := deepC_get hd
          have hcl : closedL ds = true → closedL ((ds.drop lo).take (n * sz)) = true := fun hc => closedL_sub hc fun j c hj => ⟨_, (get_cut hj).1⟩
          cases hx with
          | w _ _ _ c A hD hn k0 kk =>
            by_cases hn0 : n = 0
            · subst hn0
              refine ⟨by simp [closed, closedL], ?_⟩
              exact .s _ _ _ _ _ (fun _ => undef) hn (fun hf => by simp at hf) (fun j x hj => by simp at hj) (fun j x hj => by simp at hj)
            · obtain ⟨b, hA, rfl⟩ := kk (by omega)
              obtain ⟨l1, l2, l3, l4, l5⟩ := hv.lies id _ hs
              rcases l5 with h0' | ⟨b', us, e1, e2, e3, e4, e5⟩
              · exfalso
                have : n0 = 0 := by omega
                subst this
                have hcs : cs.length = 0 := by simpa using l1
                have : 0 < n * sz := Nat.mul_pos (by omega) l4
                omega
              · rw [hA] at e1
                simp only [Option.some.injEq, Addr.mk.injEq] at e1
                obtain ⟨rfl, -, -⟩ := e1
                have hVb : V b := h2 id List.mem_cons_self _ hs b (by
                  have hc0 : (g.ρ id).cap ≠ 0 := by
                    intro h0
                    have : n0 = 0 := by omega
                    subst this
                    have hcs : cs.length = 0 := by simpa using l1
                    have : 0 < n * sz := Nat.mul_pos (by omega) l4
                    omega
                  simp [blockOf, hA, hc0])
                have hall : ∀ (j : Nat) (x : AV), ds[j]? = some x → ∃ v, us[j]? = some v ∧ closed x = true ∧ Rep w (gV V) x v := by
                  intro j x hj
                  have hlt : j < cs.length := by
                    rw [← k1]
                    exact (List.getElem?_eq_some_iff.1 hj).1
                  obtain ⟨y, ls, f1, f2, f3⟩ := k2 j cs[j] (List.getElem?_eq_getElem hlt)
                  rw [hj] at f1
                  obtain rfl := Option.some.inj f1
                  obtain ⟨v, e5, e6⟩ := e4 j _ (List.getElem?_eq_getElem hlt)
                  exact ⟨v, e5, ih _ _ _ _ e6 f2 fun i hi => h2 i (List.mem_cons_of_mem _ (f3 i hi))⟩
                refine ⟨by simpa only [closed] using hcl (closedL_of ds fun j c hj => (hall j c hj).choose_spec.2.1), ?_⟩
                refine .s _ _ _ _ _ (fun j => us.getD (lo + j) undef) hn (fun hf => by simp at hf) (fun j x hj => ?_) (fun j x hj => ?_)
                · obtain ⟨v, f1, f2, f3⟩ := hall _ _ (get_cut hj).1
                  refine ⟨_, rfl, hVb, ?_⟩
                  rw [add_lit0, cell_at w b _ us E _ e2]
                  simp [Array.getD_eq_getD_getElem?, f1]
                · obtain ⟨v, f1, f2, f3⟩ := hall _ _ (get_cut hj).1
                  simpa [Array.getD_eq_getD_getElem?, f1] using f3
        · cases h
      · rename_i cs hs
        split at h
        · rename_i hcn
          obtain ⟨hcc, hne, hn0⟩ := hcn
          simp only [Option.some.injEq, Prod.mk.injEq] at h
          obtain ⟨rfl, rfl⟩ := h
          cases hx with
          | w _ _ _ c A hD hn k0 kk =>
            obtain ⟨b, hA, rfl⟩ := kk hn0
            refine ⟨by simp only [closed]; exact closedL_sub hcc fun j c hj => ⟨lo + j, by rwa [List.getElem?_drop] at hj⟩, ?_⟩
            rcases hv.lies id _ hs b hA with h0 | ⟨hVb, hcell⟩
            · exact absurd h0 hne
            · have hall : ∀ (j : Nat) (x : AV), (cs.drop lo)[j]? = some x → ∃ u, w.cell? ((⟨b, lo, none⟩ : Addr).add j) = some u ∧ Rep w (gV V) x u := by
                intro j x hj
                rw [List.getElem?_drop] at hj
                obtain ⟨u, f1, f2⟩ := hcell _ _ hj
                rw [add_lit0] at f1 ⊢
                rw [Nat.zero_add] at f1
                exact ⟨u, f1, f2.closed_to (closedL_mem cs hcc _ _ hj) h1⟩
              refine .s _ _ _ _ _ (fun j => (w.cell? ((⟨b, lo, none⟩ : Addr).add j)).getD undef) hn (fun hf => by simp at hf) (fun j x hj => ?_) (fun j x hj => ?_)
              · obtain ⟨u, f1, f2⟩ := hall j x hj
                exact ⟨_, rfl, h1 b hVb, by rw [f1, Option.getD_some]⟩
              · obtain ⟨u, f1, f2⟩ := hall j x hj
                rw [f1, Option.getD_some]
                exact f2
        · cases h
      · cases h
    · -- a block
      rename_i id off
      split at h
      · rename_i T cs hs
        obtain ⟨⟨ds, js⟩, hd, h⟩ := Option.map_eq_some_iff.1 h
        simp only [Prod.mk.injEq] at h
        obtain ⟨rfl, rfl⟩ := h
        obtain ⟨k1, k2⟩ := deepC_get hd
        cases hx with
        | r _ _ b hD hA =>
          obtain ⟨b', us, e1, e2, e3, e4, e5⟩ := hv.lies id _ hs
          rw [hA] at e1
          simp only [Option.some.injEq, Addr.mk.injEq] at e1
          obtain ⟨rfl, -, -⟩ := e1
          have hVb : V b := h2 id List.mem_cons_self _ hs b (by simp [blockOf, hA])
          have hall : ∀ (j : Nat) (x : AV), ds[j]? = some x → ∃ v, us[j]? = some v ∧ closed x = true ∧ Rep w (gV V) x v := by
            intro j x hj
            have hlt : j < cs.length := by
              rw [← k1]
              exact (List.getElem?_eq_some_iff.1 hj).1
            obtain ⟨y, ls, f1, f2, f3⟩ := k2 j cs[j] (List.getElem?_eq_getElem hlt)
            rw [hj] at f1
            obtain rfl := Option.some.inj f1
            obtain ⟨v, e5, e6⟩ := e4 j _ (List.getElem?_eq_getElem hlt)
            exact ⟨v, e5, ih _ _ _ _ e6 f2 fun i hi => h2 i (List.mem_cons_of_mem _ (f3 i hi))⟩
          refine ⟨?_, .p _ _ (fun j => us.getD (off + j) undef) hVb (fun j x hj => ?_) (fun j x hj => ?_)⟩
          · simp only [closed]
            exact closedL_of _ fun j c hj => by
              rw [List.getElem?_drop] at hj
              exact (hall _ c hj).choose_spec.2.1
          · rw [List.getElem?_drop] at hj
            obtain ⟨v, f1, f2, f3⟩ := hall _ _ hj
            rw [add_lit0, cell_at w b _ us T _ e2]
            simp [Array.getD_eq_getD_getElem?, f1]
          · rw [List.getElem?_drop] at hj
            obtain ⟨v, f1, f2, f3⟩ := hall _ _ hj
            simpa [Array.getD_eq_getD_getElem?, f1] using f3
      · rename_i cs hs
        split at h
        · rename_i hcn
          obtain ⟨hcc, hne⟩ := hcn
          simp only [Option.some.injEq, Prod.mk.injEq] at h
          obtain ⟨rfl, rfl⟩ := h
          cases hx with
          | r _ _ b hD hA =>
            refine ⟨by simp only [closed]; exact closedL_sub hcc fun j c hj => ⟨off + j, by rwa [List.getElem?_drop] at hj⟩, ?_⟩
            rcases hv.lies id _ hs b hA with h0 | ⟨hVb, hcell⟩
            · exact absurd h0 hne
            · have hall : ∀ (j : Nat) (x : AV), (cs.drop off)[j]? = some x → ∃ u, w.cell? ((⟨b, off, none⟩ : Addr).add j) = some u ∧ Rep w (gV V) x u := by
                intro j x hj
                rw [List.getElem?_drop] at hj
                obtain ⟨u, f1, f2⟩ := hcell _ _ hj
                rw [add_lit0] at f1 ⊢
                rw [Nat.zero_add] at f1
                exact ⟨u, f1, f2.closed_to (closedL_mem cs hcc _ _ hj) h1⟩
              refine .p _ _ (fun j => (w.cell? ((⟨b, off, none⟩ : Addr).add j)).getD undef) (h1 b hVb) (fun j x hj => ?_) (fun j x hj => ?_)
              · obtain ⟨u, f1, f2⟩ := hall j x hj
                rw [f1, Option.getD_some]
              · obtain ⟨u, f1, f2⟩ := hall j x hj
                rw [f1, Option.getD_some]
                exact f2
        · cases h
      · cases h
    · -- a struct
      rename_i cs
      obtain ⟨⟨ds, js⟩, hd, h⟩ := Option.map_eq_some_iff.1 h
      simp only [Prod.mk.injEq] at h
      obtain ⟨rfl, rfl⟩ := h
      obtain ⟨k1, k2⟩ := deepC_get hd
      cases hx with
      | a _ vs us hs e1 e2 =>
        have hall : ∀ (j : Nat) (x : AV), ds[j]? = some x → vs[j]? = some (us j) ∧ closed x = true ∧ Rep w (gV V) x (us j) := by
          intro j x hj
          have hlt : j < cs.length := by
            rw [← k1]
            exact (List.getElem?_eq_some_iff.1 hj).1
          obtain ⟨y, ls, f1, f2, f3⟩ := k2 j cs[j] (List.getElem?_eq_getElem hlt)
          rw [hj] at f1
          obtain rfl := Option.some.inj f1
          exact ⟨e1 j _ (List.getElem?_eq_getElem hlt), ih _ _ _ _ (e2 j _ (List.getElem?_eq_getElem hlt)) f2 fun i hi => h2 i (f3 i hi)⟩
        refine ⟨?_, .a _ _ us (by rw [hs, k1]) (fun j c hj => (hall j c hj).1) (fun j c hj => (hall j c hj).2.2)⟩
        simp only [closed]
        exact closedL_of _ fun j c hj => (hall j c hj).2.1
    · exact leaf hx h

/-- The blocks that never change, and those of some numbers. -/
def G.frz (g : G) (σ : Sto) (ids : List Nat) : G := ⟨fun b => g.V b ∨ ∃ i ∈ ids, ∃ s, σ i = some s ∧ blockOf g i s = some b, g.ρ, g.D⟩

theorem deepL_sound (hv : Inv w g σ) (V : Nat → Prop) (h1 : ∀ b, g.V b → V b) (d : Nat) : ∀ (xs ys : List AV) (us : List Value) (is : List Nat), us.length = xs.length → (∀ (j : Nat) (x : AV) (u : Value), xs[j]? = some x → us[j]? = some u → Rep w g x u) → deepC (deep σ d) xs = some (ys, is) →
    (∀ i ∈ is, ∀ s, σ i = some s → ∀ b, blockOf g i s = some b → V b) → us.length = ys.length ∧ closedL ys = true ∧ ∀ (j : Nat) (y : AV) (u : Value), ys[j]? = some y → us[j]? = some u → Rep w (gV V) y u := by
  intro xs ys us is hl hr h h2
  obtain ⟨k1, k2⟩ := deepC_get h
  have hall : ∀ (j : Nat) (y : AV), ys[j]? = some y → ∃ u, us[j]? = some u ∧ closed y = true ∧ Rep w (gV V) y u := by
    intro j y hj
    have hlt : j < xs.length := by
      rw [← k1]
      exact (List.getElem?_eq_some_iff.1 hj).1
    obtain ⟨z, ls, f1, f2, f3⟩ := k2 j xs[j] (List.getElem?_eq_getElem hlt)
    rw [hj] at f1
    obtain rfl := Option.some.inj f1
    have hu : us[j]? = some us[j] := List.getElem?_eq_getElem (by omega)
    exact ⟨_, hu, deep_sound hv V h1 d _ _ _ _ (hr j _ _ (List.getElem?_eq_getElem hlt) hu) f2 fun i hi => h2 i (f3 i hi)⟩
  refine ⟨by omega, closedL_of _ fun j c hj => (hall j c hj).choose_spec.2.1, fun j y u hj hu => ?_⟩
  obtain ⟨u', f1, _, f3⟩ := hall j y hj
  rw [hu] at f1
  exact (Option.some.inj f1) ▸ f3

theorem Rep.fullV {V : Nat → Prop} {g' : G} {x : AV} {u : Value} (h : Rep w (gV V) x u) (hV : ∀ b, V b → g'.V b) (hD : ∀ i, ¬ (gV V).D i) : Rep w g' x u :=
  h.onto ⟨hV, fun _ _ => rfl, fun i hi => (hD i hi).elim, fun i hi => (hD i hi).elim⟩

/-- Numbers whose blocks never change from now on. -/
theorem adv_frz (hv : Inv w g σ) (key d : Nat) (ids : List Nat) : Adv w g σ key w (g.frz σ ids) (frz σ d ids) := by
  have hon : Onto w g w (g.frz σ ids) := ⟨fun _ h => .inl h, fun _ _ => rfl, fun _ h => h, fun _ _ => rfl⟩
  have hbl : ∀ i s, blockOf (g.frz σ ids) i s = blockOf g i s := fun i s => by cases s <;> rfl
  have hfz : ∀ i, i ∈ ids → ∀ t, frz σ d ids i = some t → ∃ s ds is, σ i = some s ∧ deepC (deep σ d) s.cells = some (ds, is) ∧ is.all (· ∈ ids) = true ∧ t = .fz ds := by
    intro i hi t ht
    simp only [frz, hi, if_true] at ht
    obtain ⟨s, h1, h2⟩ := Option.bind_eq_some_iff.1 ht
    obtain ⟨⟨ds, is⟩, h3, h4⟩ := Option.bind_eq_some_iff.1 h2
    simp only at h4
    split at h4
    · rename_i hc
      exact ⟨s, ds, is, h1, h3, hc, (Option.some.inj h4).symm⟩
    · cases h4
  have hno : ∀ i, i ∉ ids → frz σ d ids i = σ i := fun i hi => by simp [frz, hi]
  refine ⟨hon, ⟨fun b hb => ?_, fun i t ht => ?_, fun i t ht => ?_, fun i j t u b hij hi hj hib => ?_⟩, rfl, rfl, rfl, Nat.le_refl _, fun _ _ _ => rfl, fun b hb => hb.elim .inl fun ⟨i, _, s, h1, h2⟩ => .inr (.inr ⟨i, s, h1, h2⟩), fun i t b hi hib => ?_, fun i hi => .inl hi⟩
  · rcases hb with h | ⟨i, _, s, h1, h2⟩
    · exact hv.vlt b h
    · exact ((hv.lies i s h1).lt h2).1
  · by_cases hi : i ∈ ids
    · obtain ⟨s, ds, is, h1, h2, h3, rfl⟩ := hfz i hi t ht
      intro b hA
      obtain ⟨us, hus⟩ := hv.at_ h1 hA
      by_cases hds : ds = []
      · exact .inl hds
      refine .inr ⟨?_, fun j c hj => ?_⟩
      · cases s with
        | ob T cs => exact .inr ⟨i, hi, _, h1, by simp only [blockOf]; rw [show (g.ρ i).A = _ from hA]; rfl⟩
        | row E sz n cs =>
          refine .inr ⟨i, hi, _, h1, ?_⟩
          obtain ⟨l1, l2, l3, l4, l5⟩ := hv.lies i _ h1
          have hc0 : (g.ρ i).cap ≠ 0 := by
            intro h0
            have : n = 0 := by omega
            subst this
            have hcs : cs.length = 0 := by simpa using l1
            exact hds (List.eq_nil_of_length_eq_zero (by rw [(deepC_get h2).1]; exact hcs))
          simp only [blockOf, hc0, if_false]
          rw [show (g.ρ i).A = _ from hA]
          rfl
        | fz cs =>
          rcases hv.lies i _ h1 b hA with h0 | h0
          · subst h0
            exact absurd (List.eq_nil_of_length_eq_zero (by rw [(deepC_get h2).1]; rfl)) hds
          · exact .inl h0.1
      · obtain ⟨k1, k2⟩ := deepC_get h2
        have hlt : j < s.cells.length := by
          rw [← k1]
          exact (List.getElem?_eq_some_iff.1 hj).1
        obtain ⟨z, ls, f1, f2, f3⟩ := k2 j s.cells[j] (List.getElem?_eq_getElem hlt)
        rw [hj] at f1
        obtain rfl := Option.some.inj f1
        obtain ⟨e1, e2⟩ := hus j _ (List.getElem?_eq_getElem hlt)
        refine ⟨_, e1, ?_⟩
        have := (deep_sound hv (g.frz σ ids).V (fun _ h => .inl h) d _ _ _ _ e2 f2 fun k hk s' hs' b' hb' => .inr ⟨k, ?_, s', hs', hb'⟩).2
        · exact this.fullV (fun _ h => h) fun _ h => h
        · simpa using List.all_eq_true.1 h3 k (f3 k hk)
    · rw [hno i hi] at ht
      refine (hv.lies i t ht).onto hon (hv.told i t ht) fun b hb => ⟨rfl, fun hV => ?_⟩
      rcases hV with h | ⟨j, hj, s, h1, h2⟩
      · exact ((hv.lies i t ht).lt hb).2 h
      · exact hv.apart i j t s b (fun e => hi (e ▸ hj)) ht h1 hb h2
  · by_cases hi : i ∈ ids
    · obtain ⟨s, ds, is, h1, _⟩ := hfz i hi t ht
      exact hv.told i s h1
    · rw [hno i hi] at ht
      exact hv.told i t ht
  · rw [hbl] at hib ⊢
    by_cases hi' : i ∈ ids
    · obtain ⟨s, ds, is, h1, h2, h3, rfl⟩ := hfz i hi' t hi
      simp [blockOf] at hib
    · by_cases hj' : j ∈ ids
      · obtain ⟨s, ds, is, h1, h2, h3, rfl⟩ := hfz j hj' u hj
        simp [blockOf]
      · rw [hno i hi'] at hi
        rw [hno j hj'] at hj
        exact hv.apart i j t u b hij hi hj hib
  · rw [hbl] at hib
    by_cases hi' : i ∈ ids
    · obtain ⟨s, ds, is, h1, h2, h3, rfl⟩ := hfz i hi' t hi
      simp [blockOf] at hib
    · rw [hno i hi'] at hi
      exact .inr ⟨i, t, hi, hib⟩

/-- A call that has laid new blocks alone. -/
theorem adv_below (hv : Inv w g σ) (key : Nat) {w1 : World} (hB : Below w.heap.size w w1) (V : Nat → Prop) (h1 : ∀ b, g.V b → V b) (h2 : ∀ b, V b → (g.V b ∨ w.heap.size ≤ b) ∧ b < w1.heap.size) :
    Adv w g σ key w1 ⟨V, g.ρ, g.D⟩ σ := by
  have hon : Onto w g w1 ⟨V, g.ρ, g.D⟩ := ⟨h1, fun b hb => hB.block b (hv.vlt b hb), fun _ h => h, fun _ _ => rfl⟩
  have hbl : ∀ i s, blockOf ⟨V, g.ρ, g.D⟩ i s = blockOf g i s := fun i s => by cases s <;> rfl
  refine ⟨hon, ⟨fun b hb => (h2 b hb).2, fun i t hi => ?_, hv.told, fun i j t u b hij hi hj hb => ?_⟩, hB.os, hB.tape, hB.output, hB.size, fun b hb _ => hB.block b hb, fun b hb => (h2 b hb).1.elim .inl fun h => .inr (.inl h), fun i t b hi hb => .inr ⟨i, t, hi, by rwa [hbl] at hb⟩, fun i hi => .inl hi⟩
  · refine (hv.lies i t hi).onto hon (hv.told i t hi) fun b hb => ?_
    have hlt := (hv.lies i t hi).lt hb
    exact ⟨hB.block b hlt.1, fun h => (h2 b h).1.elim hlt.2 (fun h3 => by omega)⟩
  · rw [hbl] at hb ⊢
    exact hv.apart i j t u b hij hi hj hb

theorem flat1_res {w1 : World} {V V2 : Nat → Prop} {x : AV} {u : Value} {B : List Nat} (h : Res1 w1 V x u B) (hf : flat1 x = true) (hB : ∀ b ∈ B, ¬ V2 b) : Res1 w1 V2 x u B := by
  cases x <;> simp only [flat1, Bool.false_eq_true] at hf
  case v q =>
    obtain ⟨h1, h2, h3⟩ := h
    exact ⟨h1, h2, by cases h3; exact .v _⟩
  case o E sz n cs =>
    obtain ⟨A, c, rfl, hl, hn, hm, hsz, hcc, hb⟩ := h
    refine ⟨A, c, rfl, hl, hn, hm, hsz, hcc, ?_⟩
    rcases hb with h0 | ⟨b, vs, e0, e1, e2, e3, e4, e5⟩
    · exact .inl h0
    · refine .inr ⟨b, vs, e0, e1, e2, e3, fun j x hj => ?_, hB b (by rw [e0]; simp)⟩
      obtain ⟨v, f1, f2⟩ := e4 j x hj
      have hp : plain x = true := List.all_eq_true.1 hf x (List.mem_of_getElem? hj)
      cases x <;> simp only [plain, Bool.false_eq_true] at hp
      cases f2
      exact ⟨_, f1, .v _⟩

theorem flatL_res {w1 : World} {V V2 : Nat → Prop} {xs : List AV} {us : List Value} {B : List Nat} (h : ResL w1 V xs us B) (hf : xs.all flat1 = true) (hB : ∀ b ∈ B, ¬ V2 b) : ResL w1 V2 xs us B := by
  induction h with
  | nil => exact .nil
  | cons h k ih =>
    simp only [List.all_cons, Bool.and_eq_true] at hf
    exact .cons (flat1_res h hf.1 (fun b hb => hB b (List.mem_append_left _ hb))) (ih hf.2 (fun b hb => hB b (List.mem_append_right _ hb)))

theorem flat_res {w1 : World} {V V2 : Nat → Prop} {x : AV} {u : Value} {B : List Nat} (h : Res w1 V x u B) (hf : flat x = true) (hB : ∀ b ∈ B, ¬ V2 b) : Res w1 V2 x u B := by
  cases x
  case t xs =>
    obtain ⟨us, rfl, hr⟩ := h
    exact ⟨us, rfl, flatL_res hr hf hB⟩
  case v q => exact flat1_res (x := .v q) h hf hB
  case o E sz n cs => exact flat1_res (x := .o E sz n cs) h hf hB
  all_goals simp [flat, flat1] at hf

theorem call_sound (hv : Inv w g σ) (henv : Env w g e a) {key : Nat} (hD : ∀ i, key ≤ i → i < key + 4 → ¬ g.D i) {o : Oper} {f : FuncId} {args : Array Operand} {tys : Array TypeId}
    (hop : o.op = .call { callee := .value (.func f), args := args, argTypes := tys }) {d : Nat} {xs : List AV} {ids : List Nat} (hl : deepC (deep σ d) (args.toList.map (val e)) = some (xs, ids)) {x : AV} (hC : PureOk P f xs x)
    {y : AV} {σ1 : Sto} (had : (if ids = [] ∨ flat x = true then adopt σ key x else adopt (frz σ d ids) key x) = some (y, σ1)) {next : Act → World → Prop} {Q : Exit → Act → World → Prop} (hN : ∀ u w1 g1, Adv w g σ key w1 g1 σ1 → Rep w1 g1 y u → next (a.put o.dst u) w1) : o.wp P a w next Q := by
  obtain ⟨⟨fn, hf, hname, hb⟩, hcall⟩ := hC
  have h2 : ¬ fn.body = none := by cases hx : fn.body <;> simp_all
  have hrun : (execOp a.eval o).run P w = .ok (.enter f (args.map a.eval)) w := by
    have h1 : ¬ fn.name = "runtime.NumGoroutine" := by simpa using hname
    unfold execOp
    simp [hop, resolve, Deferred.ofValue, invoke, callFunc, hf, h1, h2, Act.eval]
  unfold Oper.wp
  rw [hrun]
  show Calls P f (args.map a.eval) w _
  have hreps : ∀ (j : Nat) (x : AV) (u : Value), (args.toList.map (val e))[j]? = some x → (args.toList.map a.eval)[j]? = some u → Rep w g x u := fun j x u hj hu => by
    simp only [List.getElem?_map] at hj hu
    obtain ⟨q, hq, rfl⟩ := Option.map_eq_some_iff.1 hj
    rw [hq] at hu
    simp only [Option.map_some, Option.some.injEq] at hu
    subst hu
    exact henv.val q
  have harr : args.map a.eval = (args.toList.map a.eval).toArray := by rw [← Array.toList_map, Array.toArray_toList]
  rw [harr]
  have hroom : key + room x ≤ key + 4 := by
    have : ∃ τ, (adopt τ key x).isSome := by
      split at had
      · exact ⟨σ, by rw [had]; rfl⟩
      · exact ⟨_, by rw [had]; rfl⟩
    obtain ⟨τ, hτ⟩ := this
    cases x <;> simp only [room] <;> try omega
    split
    · omega
    rename_i hcl
    simp only [adopt, if_neg hcl] at hτ
    split at hτ
    · omega
    · cases hτ
  by_cases hfl : ids ≠ [] ∧ flat x = true
  · have hff := hfl.2
    rw [if_pos (.inr hff)] at had
    obtain ⟨i1, _, i2⟩ := deepL_sound hv (fun k => k < w.heap.size) hv.vlt d _ xs (args.toList.map a.eval) ids (by simp) hreps hl fun i _ s hs b hb => ((hv.lies i s hs).lt hb).1
    refine (hcall w (fun k => k < w.heap.size) _ (fun _ h => h) i1 i2).mono ?_
    rintro en w' ⟨V', u, B, rfl, hB, hV1, hV2, hres, hnd, hBB⟩
    have hadv := adv_below hv key hB g.V (fun _ h => h) (fun b hb => ⟨.inl hb, Nat.lt_of_lt_of_le (hv.vlt b hb) hB.size⟩)
    have hres2 : Res w' g.V x u B := flat_res hres hff (fun b hb h => by
      have := hv.vlt b h
      have := (hBB b hb).1
      omega)
    obtain ⟨g2, h3, h4⟩ := adopt_sound hadv hD (Nat.le_refl _) hroom hres2 hnd (fun b hb => ⟨.inl (hBB b hb).1, fun j t hj hbl => by
      have := ((hv.lies j t hj).lt hbl).1
      have := (hBB b hb).1
      omega⟩) had
    exact hN u w' g2 h3 h4
  · -- what is lent never changes from now on
    have hadf : Adv w g σ key w (g.frz σ ids) (frz σ d ids) := adv_frz hv key d ids
    have hvf := hadf.inv
    obtain ⟨σf, had', hadf⟩ : ∃ σf, adopt σf key x = some (y, σ1) ∧ Adv w g σ key w (g.frz σ ids) σf := by
      by_cases he : ids = []
      · subst he
        rw [if_pos (.inl rfl)] at had
        have : frz σ d [] = σ := by funext i; simp [frz]
        rw [this] at hadf
        exact ⟨σ, had, hadf⟩
      · have hff : ¬ flat x = true := fun hff => hfl ⟨he, hff⟩
        rw [if_neg (by rintro (h | h); exact he h; exact hff h)] at had
        exact ⟨_, had, hadf⟩
    have hvf := hadf.inv
    obtain ⟨i1, _, i2⟩ := deepL_sound hv (g.frz σ ids).V (fun _ h => .inl h) d _ xs (args.toList.map a.eval) ids (by simp) hreps hl fun i hi s hs b hb => .inr ⟨i, hi, s, hs, hb⟩
    refine (hcall w (g.frz σ ids).V _ hvf.vlt i1 i2).mono ?_
    rintro en w' ⟨V', u, B, rfl, hB, hV1, hV2, hres, hnd, hBB⟩
    have hadv := hadf.trans (adv_below hvf key hB V' hV1 hV2)
    obtain ⟨g2, h3, h4⟩ := adopt_sound hadv (g1 := ⟨V', g.ρ, g.D⟩) hD (Nat.le_refl _) hroom hres hnd (fun b hb => ⟨.inl (hBB b hb).1, fun j t hj hbl => by
      have hbl' : blockOf (g.frz σ ids) j t = some b := by cases t <;> exact hbl
      have := ((hvf.lies j t hj).lt hbl').1
      have := (hBB b hb).1
      omega⟩) had'
    exact hN u w' g2 h3 h4

theorem resL_closed {w1 : World} {V : Nat → Prop} {xs : List AV} {us : List Value} {B : List Nat} (h : ResL w1 V xs us B) (hc : closedL xs = true) :
    us.length = xs.length ∧ ∀ (j : Nat) (x : AV) (u : Value), xs[j]? = some x → us[j]? = some u → Rep w1 (gV V) x u := by
  induction h with
  | nil => exact ⟨rfl, fun j x u hj => by simp at hj⟩
  | cons h k ih =>
    rename_i x u B xs us Bs
    simp only [closedL, Bool.and_eq_true] at hc
    obtain ⟨i1, i2⟩ := ih hc.2
    refine ⟨by simp [i1], fun j y v hj hu => ?_⟩
    cases j with
    | zero =>
      simp at hj hu
      subst hj hu
      cases x
      case o => simp [closed] at hc
      all_goals exact h.2.2
    | succ j => exact i2 j y v (by simpa using hj) (by simpa using hu)

theorem res_closed {w1 : World} {V : Nat → Prop} {x : AV} {u : Value} {B : List Nat} (h : Res w1 V x u B) (hc : closed x = true) : Rep w1 (gV V) x u := by
  cases x
  case t xs =>
    obtain ⟨us, rfl, hr⟩ := h
    simp only [closed] at hc
    obtain ⟨i1, i2⟩ := resL_closed hr hc
    simp only [Array.length_toList] at i1
    refine .t _ _ (fun j => us.getD j undef) i1 (fun j c hj => ?_) (fun j c hj => ?_)
    · have hlt : j < us.size := by
        have := (List.getElem?_eq_some_iff.1 hj).1
        omega
      simp [Array.getD_eq_getD_getElem?, hlt]
    · have hlt : j < us.size := by
        have := (List.getElem?_eq_some_iff.1 hj).1
        omega
      have := i2 j c us[j] hj (by simp [hlt])
      simpa [Array.getD_eq_getD_getElem?, hlt] using this
  case o => simp [closed] at hc
  case m q => exact h.2.2
  case v q => exact h.2.2
  case p => exact h.2.2
  case s => exact h.2.2
  case r => simp [closed] at hc
  case w => simp [closed] at hc
  case a => exact h.2.2

theorem call_pure (hv : Inv w g σ) (henv : Env w g e a) {key : Nat} {o : Oper} {f : FuncId} {args : Array Operand} {tys : Array TypeId}
    (hop : o.op = .call { callee := .value (.func f), args := args, argTypes := tys }) (hcl : closedL (args.toList.map (val e)) = true) {x : AV} (hC : PureOk P f (args.toList.map (val e)) x) (hcx : closed x = true)
    {next : Act → World → Prop} {Q : Exit → Act → World → Prop} (hN : ∀ u w1 g1, Adv w g σ key w1 g1 σ → Rep w1 g1 x u → next (a.put o.dst u) w1) : o.wp P a w next Q := by
  obtain ⟨⟨fn, hf, hname, hb⟩, hcall⟩ := hC
  have h2 : ¬ fn.body = none := by cases hx : fn.body <;> simp_all
  have hrun : (execOp a.eval o).run P w = .ok (.enter f (args.map a.eval)) w := by
    have h1 : ¬ fn.name = "runtime.NumGoroutine" := by simpa using hname
    unfold execOp
    simp [hop, resolve, Deferred.ofValue, invoke, callFunc, hf, h1, h2, Act.eval]
  unfold Oper.wp
  rw [hrun]
  show Calls P f (args.map a.eval) w _
  have harr : args.map a.eval = (args.toList.map a.eval).toArray := by rw [← Array.toList_map, Array.toArray_toList]
  rw [harr]
  refine (hcall w g.V _ hv.vlt (by simp only [List.length_map]) (fun j y u hj hu => ?_)).mono ?_
  · have hcy := closedL_mem _ hcl j y hj
    simp only [List.getElem?_map] at hj hu
    obtain ⟨q, hq, rfl⟩ := Option.map_eq_some_iff.1 hj
    rw [hq] at hu
    simp only [Option.map_some, Option.some.injEq] at hu
    subst hu
    exact (henv.val q).closed_to hcy (fun _ h => h)
  · rintro en w' ⟨V', u, B, rfl, hB, hV1, hV2, hres, hnd, hBB⟩
    exact hN u w' _ (adv_below hv key hB V' hV1 hV2) ((res_closed hres hcx).closed_to hcx (fun _ h => h))
end
end Go.Proofs.YtegbkihgnofkfaaGreatDoor.Ev

/-
The engine, part 14a: rows and values as they are handed over.
-/
namespace Go.Proofs.YtegbkihgnofkfaaGreatDoor.Ev
section
set_option linter.unusedVariables false
set_option linter.unusedSimpArgs false
open Go Go.RowKit
set_option linter.unusedVariables false
set_option linter.unusedSimpArgs false
variable {P : Program} {I : Tab} {w : World} {g : G} {σ : Sto}

/-- The blocks of numbers of the store. -/
def blocksOf (g : G) (σ : Sto) (is : List Nat) : List Nat := is.filterMap fun i => (σ i).bind fun s => blockOf g i s

theorem mem_blocksOf {is : List Nat} {b : Nat} : b ∈ blocksOf g σ is ↔ ∃ i ∈ is, ∃ s, σ i = some s ∧ blockOf g i s = some b := by
  simp only [blocksOf, List.mem_filterMap]
  constructor
  · rintro ⟨i, hi, h⟩
    obtain ⟨s, h1, h2⟩ := Option.bind_eq_some_iff.1 h
    exact ⟨i, hi, s, h1, h2⟩
  · rintro ⟨i, hi, s, h1, h2⟩
    exact ⟨i, hi, by rw [h1]; exact h2⟩

theorem tk_get {n N sz j : Nat} {ds : List AV} {x : AV} (h : (tk n N sz ds)[j]? = some x) : ds[j]? = some x := by
  unfold tk at h
  split at h
  · exact h
  · rw [List.getElem?_take] at h
    split at h
    · exact h
    · cases h

theorem tk_len {n N sz : Nat} {ds : List AV} (h : ds.length = N * sz) (hn : n ≤ N) : (tk n N sz ds).length = n * sz := by
  unfold tk
  split
  · rename_i e
    rw [h, e]
  · rw [List.length_take, h, Nat.min_eq_left (Nat.mul_le_mul_right sz hn)]

/-- A row of the store, as it is handed over. -/
theorem own_sound (hv : Inv w g σ) (V : Nat → Prop) (h1 : ∀ b, g.V b → V b) {id n d E sz N : Nat} {cs ds : List AV} {is : List Nat} {u : Value} (hx : Rep w g (.w id 0 n) u) (hs : σ id = some (.row E sz N cs)) (hn : n ≤ N) (hd : deepC (deep σ d) cs = some (ds, is))
    (h2 : ∀ i ∈ is, ∀ s, σ i = some s → ∀ b, blockOf g i s = some b → V b) (h3 : ∀ s, σ id = some s → ∀ b, blockOf g id s = some b → ¬ V b) :
    ∃ A c, u = .slice A n c ∧ (g.ρ id) = ⟨A, c⟩ ∧ Res1 w V (.o E sz n (tk n N sz ds)) u (blocksOf g σ [id]) := by
  cases hx with
  | w _ _ _ c A hD hnc k0 k1 =>
    obtain ⟨hA, hcap⟩ := k0 rfl
    obtain ⟨l1, l2, l3, l4, l5⟩ := hv.lies id _ hs
    obtain ⟨e1, e2⟩ := deepC_get hd
    have hall : ∀ (us : Array Value), Cells w g cs us → ∀ (j : Nat) (x : AV), ds[j]? = some x → ∃ v, us[j]? = some v ∧ closed x = true ∧ Rep w (gV V) x v := by
      intro us e4 j x hj
      have hlt : j < cs.length := by
        rw [← e1]
        exact (List.getElem?_eq_some_iff.1 hj).1
      obtain ⟨y, ls, f1, f2, f3⟩ := e2 j cs[j] (List.getElem?_eq_getElem hlt)
      rw [hj] at f1
      obtain rfl := Option.some.inj f1
      obtain ⟨v, e5, e6⟩ := e4 j _ (List.getElem?_eq_getElem hlt)
      exact ⟨v, e5, deep_sound hv V h1 d _ _ _ _ e6 f2 fun i hi => h2 i (f3 i hi)⟩
    have hlen : (tk n N sz ds).length = n * sz := tk_len (by rw [e1, l1]) hn
    refine ⟨A, c, rfl, by cases hg : g.ρ id; simp [hg] at hA hcap; simp [hA, hcap], A, c, rfl, hlen, hnc, by rw [hcap]; exact l3, l4, ?_, ?_⟩
    · rcases l5 with h0 | ⟨b, us, _, _, _, e4, _⟩
      · have : N = 0 := by omega
        subst this
        have : ds = [] := List.eq_nil_of_length_eq_zero (by rw [e1, l1]; simp)
        subst this
        simp [tk, closedL]
      · exact closedL_of _ fun j x hj => (hall us e4 j x (tk_get hj)).choose_spec.2.1
    · by_cases h0 : c = 0
      · refine .inl ⟨h0, ?_⟩
        simp [blocksOf, hs, blockOf, ← hcap, h0]
      · rcases l5 with h0' | ⟨b, us, f1, f2, f3, e4, f5⟩
        · omega
        · have hbo : blockOf g id (.row E sz N cs) = some b := by simp [blockOf, ← hcap, h0, f1]
          refine .inr ⟨b, us, by simp [blocksOf, hs, hbo], hA.trans f1, f2, by rw [hcap]; exact f3, fun j x hj => ?_, h3 _ hs b hbo⟩
          obtain ⟨v, q1, q2, q3⟩ := hall us e4 j x (tk_get hj)
          exact ⟨v, q1, q3⟩

theorem give1_sound (hv : Inv w g σ) {x y : AV} {u : Value} {os is : List Nat} (hx : Rep w g x u) (h : give1 σ x = some (y, os, is)) (V : Nat → Prop) (h1 : ∀ b, g.V b → V b) (h2 : ∀ i ∈ is, ∀ s, σ i = some s → ∀ b, blockOf g i s = some b → V b)
    (h3 : ∀ i ∈ os, ∀ s, σ i = some s → ∀ b, blockOf g i s = some b → ¬ V b) : Res1 w V y u (blocksOf g σ os) := by
  have leaf : ∀ {x : AV} {u : Value}, Rep w g x u → deep σ 8 x = some (y, is) → os = [] → Res1 w V y u (blocksOf g σ os) := by
    intro x u hx hd ho
    subst ho
    obtain ⟨k1, k2⟩ := deep_sound hv V h1 8 _ _ _ _ hx hd h2
    cases y
    case o => simp [closed] at k1
    all_goals exact ⟨rfl, k1, k2⟩
  unfold give1 at h
  split at h
  · rename_i id n
    split at h
    · rename_i E sz N cs hs
      split at h
      · rename_i hn
        obtain ⟨⟨ds, js⟩, hd, h⟩ := Option.map_eq_some_iff.1 h
        simp only [Prod.mk.injEq] at h
        obtain ⟨rfl, rfl, rfl⟩ := h
        obtain ⟨A, c, _, _, h⟩ := own_sound hv V h1 hx hs hn hd h2 (h3 id List.mem_cons_self)
        exact h
      · cases h
    · cases h
  · obtain ⟨⟨y', is'⟩, e1, e2⟩ := Option.map_eq_some_iff.1 h
    simp only [Prod.mk.injEq] at e2
    obtain ⟨rfl, rfl, rfl⟩ := e2
    exact leaf hx e1 rfl

theorem blocksOf_append (is js : List Nat) : blocksOf g σ (is ++ js) = blocksOf g σ is ++ blocksOf g σ js := by simp [blocksOf, List.filterMap_append]

theorem giveL_sound (hv : Inv w g σ) (V : Nat → Prop) (h1 : ∀ b, g.V b → V b) : ∀ (xs ys : List AV) (us : List Value) (os is : List Nat), us.length = xs.length → (∀ (j : Nat) (x : AV) (u : Value), xs[j]? = some x → us[j]? = some u → Rep w g x u) → giveL σ xs = some (ys, os, is) →
    (∀ i ∈ is, ∀ s, σ i = some s → ∀ b, blockOf g i s = some b → V b) → (∀ i ∈ os, ∀ s, σ i = some s → ∀ b, blockOf g i s = some b → ¬ V b) → ResL w V ys us (blocksOf g σ os)
  | [], ys, us, os, is, hl, hr, h, h2, h3 => by
    simp only [giveL, Option.some.injEq, Prod.mk.injEq] at h
    obtain ⟨rfl, rfl, rfl⟩ := h
    have : us = [] := List.eq_nil_of_length_eq_zero (by simpa using hl)
    subst this
    exact .nil
  | x :: xs, ys, us, os, is, hl, hr, h, h2, h3 => by
    simp only [giveL] at h
    obtain ⟨⟨y, os1, is1⟩, e1, h⟩ := Option.bind_eq_some_iff.1 h
    obtain ⟨⟨ys', os2, is2⟩, e2, h⟩ := Option.map_eq_some_iff.1 h
    simp only [Prod.mk.injEq] at h
    obtain ⟨rfl, rfl, rfl⟩ := h
    match us, hl with
    | u :: us, hl =>
      rw [blocksOf_append]
      refine .cons (give1_sound hv (hr 0 x u rfl rfl) e1 V h1 (fun i hi => h2 i (List.mem_append_left _ hi)) (fun i hi => h3 i (List.mem_append_left _ hi))) ?_
      exact giveL_sound hv V h1 xs ys' us os2 is2 (by simpa using hl) (fun j x u hj hu => hr (j + 1) x u (by simpa using hj) (by simpa using hu)) e2 (fun i hi => h2 i (List.mem_append_right _ hi)) (fun i hi => h3 i (List.mem_append_right _ hi))

theorem blocksOf_nodup (hv : Inv w g σ) : ∀ (is : List Nat), is.Nodup → (blocksOf g σ is).Nodup
  | [], _ => List.nodup_nil
  | i :: is, h => by
    rw [List.nodup_cons] at h
    have ih := blocksOf_nodup hv is h.2
    have hc : blocksOf g σ (i :: is) = (match (σ i).bind fun s => blockOf g i s with | some b => [b] | none => []) ++ blocksOf g σ is := by
      simp only [blocksOf, List.filterMap_cons]
      cases (σ i).bind fun s => blockOf g i s <;> rfl
    rw [hc]
    cases hb : (σ i).bind fun s => blockOf g i s with
    | none => simpa using ih
    | some b =>
      simp only [List.cons_append, List.nil_append, List.nodup_cons]
      refine ⟨fun hm => ?_, ih⟩
      obtain ⟨j, hj, t, h1, h2⟩ := mem_blocksOf.1 hm
      obtain ⟨s, h3, h4⟩ := Option.bind_eq_some_iff.1 hb
      exact hv.apart i j s t b (fun e => h.1 (e ▸ hj)) h3 h1 h4 h2

end
end Go.Proofs.YtegbkihgnofkfaaGreatDoor.Ev

/-
The engine, part 14b: what is lent to a function that may change it.
-/
namespace Go.Proofs.YtegbkihgnofkfaaGreatDoor.Ev
section
set_option linter.unusedVariables false
set_option linter.unusedSimpArgs false
open Go Go.RowKit
set_option linter.unusedVariables false
set_option linter.unusedSimpArgs false
variable {P : Program} {I : Tab} {w : World} {g : G} {σ : Sto} {e : Nat → AV} {a : Act}

/-- What is lent lies in the world: an object, a part of a row, or a value. -/
inductive Lent1 (w : World) (V : Nat → Prop) : AV → Value → CR → List Nat → Prop
  | pl {x u} (ht : ∀ xs, x ≠ .t xs) (hc : closed x = true) (h : Rep w (gV V) x u) : Lent1 w V x u ⟨none, 0⟩ []
  | ob {T ps b vs Bs} (h : w.heap[b]? = some (.cells vs T (0, 0))) (k : ResL w V ps vs.toList Bs) (hb : ¬ V b) : Lent1 w V (.t (.v (.bool true) :: ni T :: ps)) (.pointer (some ⟨b, 0, none⟩)) ⟨some ⟨b, 0, none⟩, 0⟩ (b :: Bs)
  | row {lo n E sz N cs A0 c0 A c B} (h : Res1 w V (.o E sz N cs) (.slice A0 N c0) B) (hn : n ≤ c) (h0 : lo = 0 → A = A0 ∧ c = c0) (h1 : 0 < n → ∃ b, A0 = some ⟨b, 0, none⟩ ∧ A = some ⟨b, lo, none⟩) :
      Lent1 w V (.t [.v (.bool false), ni lo, ni n, .o E sz N cs]) (.slice A n c) ⟨A0, c0⟩ B
  | pw {lo n E sz N cs A0 c0 A c B ad} (h : Res1 w V (.o E sz N cs) (.slice A0 N c0) B) (hn : n ≤ c) (h0 : lo = 0 → A = A0 ∧ c = c0) (h1 : 0 < n → ∃ b, A0 = some ⟨b, 0, none⟩ ∧ A = some ⟨b, lo, none⟩)
      (hV : V ad.block) (hc : w.cell? (ad.add 0) = some (.slice A n c)) : Lent1 w V (.t [.t [.v (.bool false), ni lo, ni n, .o E sz N cs]]) (.pointer (some ad)) ⟨A0, c0⟩ B
inductive LentL (w : World) (V : Nat → Prop) : List AV → List Value → List CR → List Nat → Prop
  | nil : LentL w V [] [] [] []
  | cons {x u c B xs us cs Bs} (h : Lent1 w V x u c B) (k : LentL w V xs us cs Bs) : LentL w V (x :: xs) (u :: us) (c :: cs) (B ++ Bs)

/-- What was lent, as it comes back: or it is gone. -/
inductive LentO (w : World) (V : Nat → Prop) : List AV → List Value → List CR → List Nat → Prop
  | nil : LentO w V [] [] [] []
  | cons {x u c B xs us cs Bs} (h : Lent1 w V x u c B) (k : LentO w V xs us cs Bs) : LentO w V (x :: xs) (u :: us) (c :: cs) (B ++ Bs)
  | gone {u c xs us cs Bs} (k : LentO w V xs us cs Bs) : LentO w V (.t [] :: xs) (u :: us) (c :: cs) Bs
theorem LentL.o {w : World} {V : Nat → Prop} {xs : List AV} {us : List Value} {cs : List CR} {B : List Nat} (h : LentL w V xs us cs B) : LentO w V xs us cs B := by
  induction h with
  | nil => exact .nil
  | cons h k ih => exact .cons h ih
/-- What a call of f gives that may change what it is given. -/
def LentOk (P : Program) (f : FuncId) (args : List AV) (r : AV) : Prop :=
  (∃ fn, P.funcs[f]? = some fn ∧ (fn.name == "runtime.NumGoroutine") = false ∧ fn.body.isNone = false) ∧ ∃ x outs, r = .t [x, .t outs] ∧
  ∀ (w : World) (V : Nat → Prop) (us : List Value) (cs : List CR) (B : List Nat), (∀ b, V b → b < w.heap.size) → LentL w V args us cs B → B.Nodup →
    Calls P f us.toArray w fun en w' => ∃ V' u B1 B2, en = .returned u ∧ w'.os = w.os ∧ w'.tape = w.tape ∧ w'.output = w.output ∧ w.heap.size ≤ w'.heap.size ∧ (∀ k, k < w.heap.size → k ∉ B → w'.heap[k]? = w.heap[k]?) ∧
      (∀ b, V b → V' b) ∧ (∀ b, V' b → (V b ∨ w.heap.size ≤ b ∨ b ∈ B) ∧ b < w'.heap.size) ∧ Res w' V' x u B1 ∧ LentO w' V' outs us cs B2 ∧ (B1 ++ B2).Nodup ∧ ∀ b ∈ B1 ++ B2, b ∈ B ∨ w.heap.size ≤ b

theorem clear_sound (hv : Inv w g σ) {x y : AV} {u : Value} {is : List Nat} (hx : Rep w g x u) (h : clear σ x = some (y, is)) (V : Nat → Prop) (h1 : ∀ b, g.V b → V b) : is = [] ∧ closed y = true ∧ Rep w (gV V) y u := by
  unfold clear at h
  obtain ⟨⟨z, js⟩, h2, h⟩ := Option.bind_eq_some_iff.1 h
  simp only at h
  split at h
  · rename_i hj
    simp only [Option.some.injEq, Prod.mk.injEq] at h
    obtain ⟨rfl, rfl⟩ := h
    subst hj
    exact ⟨rfl, deep_sound hv V h1 8 _ _ _ _ hx h2 fun i hi => by simp at hi⟩
  · cases h

theorem res1_of_closed {V : Nat → Prop} {y : AV} {u : Value} (hc : closed y = true) (h : Rep w (gV V) y u) : Res1 w V y u [] := by
  cases y
  case o => simp [closed] at hc
  all_goals exact ⟨rfl, hc, h⟩

theorem leafP_sound (hv : Inv w g σ) {x y : AV} {u : Value} {is : List Nat} (hx : Rep w g x u) (h : leafP σ x = some (y, is)) (V : Nat → Prop) (h1 : ∀ b, g.V b → V b) (h3 : ∀ i ∈ is, ∀ s, σ i = some s → ∀ b, blockOf g i s = some b → ¬ V b) :
    Res1 w V y u (blocksOf g σ is) := by
  have pl : ∀ {x : AV}, Rep w g x u → clear σ x = some (y, is) → Res1 w V y u (blocksOf g σ is) := by
    intro x hx h
    obtain ⟨rfl, hc, hr⟩ := clear_sound hv hx h V h1
    exact res1_of_closed hc hr
  unfold leafP at h
  split at h
  · rename_i id n
    split at h
    · rename_i E sz N cs hs
      split at h
      · rename_i hn
        obtain ⟨⟨ds, js⟩, hd, h⟩ := Option.bind_eq_some_iff.1 h
        simp only at h
        split at h
        · rename_i hj
          simp only [Option.some.injEq, Prod.mk.injEq] at h
          obtain ⟨rfl, rfl⟩ := h
          subst hj
          obtain ⟨A, c, _, _, k⟩ := own_sound hv V h1 hx hs hn hd (fun i hi => by simp at hi) (h3 id List.mem_cons_self)
          exact k
        · cases h
      · cases h
    · cases h
  · exact pl hx h

theorem leavesP_sound (hv : Inv w g σ) (V : Nat → Prop) (h1 : ∀ b, g.V b → V b) : ∀ (xs ys : List AV) (us : List Value) (is : List Nat), us.length = xs.length → (∀ (j : Nat) (x : AV) (u : Value), xs[j]? = some x → us[j]? = some u → Rep w g x u) → deepC (leafP σ) xs = some (ys, is) →
    (∀ i ∈ is, ∀ s, σ i = some s → ∀ b, blockOf g i s = some b → ¬ V b) → ResL w V ys us (blocksOf g σ is)
  | [], ys, us, is, hl, hr, h, h3 => by
    simp only [deepC, Option.some.injEq, Prod.mk.injEq] at h
    obtain ⟨rfl, rfl⟩ := h
    have : us = [] := List.eq_nil_of_length_eq_zero (by simpa using hl)
    subst this
    exact .nil
  | x :: xs, ys, us, is, hl, hr, h, h3 => by
    simp only [deepC] at h
    obtain ⟨⟨y, js⟩, e1, h⟩ := Option.bind_eq_some_iff.1 h
    obtain ⟨⟨ys', ks⟩, e2, h⟩ := Option.map_eq_some_iff.1 h
    simp only [Prod.mk.injEq] at h
    obtain ⟨rfl, rfl⟩ := h
    match us, hl with
    | u :: us, hl =>
      rw [blocksOf_append]
      exact .cons (leafP_sound hv (hr 0 x u rfl rfl) e1 V h1 fun i hi => h3 i (List.mem_append_left _ hi))
        (leavesP_sound hv V h1 xs ys' us ks (by simpa using hl) (fun j x u hj hu => hr (j + 1) x u (by simpa using hj) (by simpa using hu)) e2 fun i hi => h3 i (List.mem_append_right _ hi))

theorem deep_not_t : ∀ (d : Nat) {x y : AV} {is : List Nat}, deep σ d x = some (y, is) → (∀ xs, x ≠ .t xs) → ∀ ys, y ≠ .t ys := by
  intro d x y is h ht ys e
  subst e
  cases d with
  | zero =>
    simp only [deep] at h
    split at h
    · simp only [Option.some.injEq, Prod.mk.injEq] at h
      exact ht ys h.1
    · cases h
  | succ d =>
    simp only [deep] at h
    split at h
    · split at h
      · split at h
        · obtain ⟨q, _, h⟩ := Option.map_eq_some_iff.1 h
          simp at h
        · cases h
      · split at h <;> simp at h
      · cases h
    · split at h
      · obtain ⟨q, _, h⟩ := Option.map_eq_some_iff.1 h
        simp at h
      · split at h <;> simp at h
      · cases h
    · obtain ⟨q, _, h⟩ := Option.map_eq_some_iff.1 h
      simp at h
    · split at h
      · simp only [Option.some.injEq, Prod.mk.injEq] at h
        exact ht ys h.1
      · cases h

/-- The place of what is lent. -/
def placeOf (g : G) (σ : Sto) : AV → CR
  | .r id 0 => match σ id with
    | some (.ob _ _) => ⟨(g.ρ id).A, 0⟩
    | _ => ⟨none, 0⟩
  | .w id _ _ => g.ρ id
  | .p [.w id _ _] => g.ρ id
  | _ => ⟨none, 0⟩

theorem pack1_sound (hv : Inv w g σ) {x y : AV} {u : Value} {is : List Nat} (hx : Rep w g x u) (h : pack1 σ x = some (y, is)) (V : Nat → Prop) (h1 : ∀ b, g.V b → V b) (h3 : ∀ i ∈ is, ∀ s, σ i = some s → ∀ b, blockOf g i s = some b → ¬ V b) :
    Lent1 w V y u (placeOf g σ x) (blocksOf g σ is) := by
  have pl : ∀ {x : AV}, (∀ xs, x ≠ .t xs) → Rep w g x u → clear σ x = some (y, is) → Lent1 w V y u ⟨none, 0⟩ (blocksOf g σ is) := by
    intro x ht hx h
    obtain ⟨rfl, hc, hr⟩ := clear_sound hv hx h V h1
    refine .pl ?_ hc hr
    unfold clear at h
    obtain ⟨⟨z, js⟩, h2, h⟩ := Option.bind_eq_some_iff.1 h
    simp only at h
    split at h
    · simp only [Option.some.injEq, Prod.mk.injEq] at h
      obtain ⟨rfl, _⟩ := h
      exact deep_not_t 8 h2 ht
    · cases h
  unfold pack1 at h
  split at h
  · cases h
  · -- an object
    rename_i id
    split at h
    · rename_i T cs hs
      obtain ⟨⟨ps, js⟩, hd, h⟩ := Option.map_eq_some_iff.1 h
      simp only [Prod.mk.injEq] at h
      obtain ⟨rfl, rfl⟩ := h
      cases hx with
      | r _ _ b hD hA =>
        obtain ⟨b', us, e1, e2, e3, e4, e5⟩ := hv.lies id _ hs
        rw [hA] at e1
        simp only [Option.some.injEq, Addr.mk.injEq] at e1
        obtain ⟨rfl, -, -⟩ := e1
        have hb : blockOf g id (.ob T cs) = some b := by simp [blockOf, hA]
        have hpl : placeOf g σ (.r id 0) = ⟨some ⟨b, 0, none⟩, 0⟩ := by simp [placeOf, hs, hA]
        have hbs : blocksOf g σ (id :: js) = b :: blocksOf g σ js := by simp [blocksOf, hs, hb]
        rw [hpl, hbs]
        refine .ob e2 (leavesP_sound hv V h1 cs ps us.toList js (by simpa using e3) (fun j x u hj hu => ?_) hd fun i hi => h3 i (List.mem_cons_of_mem _ hi)) (h3 id List.mem_cons_self _ hs b hb)
        obtain ⟨v, f1, f2⟩ := e4 j x hj
        have : us.toList[j]? = some v := by simpa using f1
        rw [hu] at this
        exact (Option.some.inj this) ▸ f2
    · rename_i hno
      have hpl : placeOf g σ (.r id 0) = ⟨none, 0⟩ := by
        simp only [placeOf]
      rw [hpl]
      exact pl (fun _ => by simp) hx h
  · -- a row
    rename_i id lo n
    split at h
    · rename_i E sz N cs hs
      obtain ⟨⟨ds, js⟩, hd, h⟩ := Option.bind_eq_some_iff.1 h
      simp only at h
      split at h
      · rename_i hj
        simp only [Option.some.injEq, Prod.mk.injEq] at h
        obtain ⟨rfl, rfl⟩ := h
        subst hj
        have hN : Rep w g (.w id 0 N) (.slice (g.ρ id).A N (g.ρ id).cap) := by
          obtain ⟨l1, l2, l3, l4, l5⟩ := hv.lies id _ hs
          refine .w _ _ _ _ _ (hv.told id _ hs) l2 (fun _ => ⟨rfl, rfl⟩) fun hp => ?_
          rcases l5 with h0 | ⟨b, us, f1, _⟩
          · omega
          · exact ⟨b, f1, f1⟩
        obtain ⟨A, c, e1, e2, k⟩ := own_sound hv V h1 hN hs (Nat.le_refl N) hd (fun i hi => by simp at hi) (h3 id List.mem_cons_self)
        simp only [tk, if_true] at k
        cases hx with
        | w _ _ _ c' A' hD hn k0 k1 =>
          exact .row (A0 := (g.ρ id).A) (c0 := (g.ρ id).cap) k hn k0 k1
      · cases h
    · cases h
  · -- a pointer to a row's slice
    rename_i id lo n
    split at h
    · rename_i E sz N cs hs
      obtain ⟨⟨ds, js⟩, hd, h⟩ := Option.bind_eq_some_iff.1 h
      simp only at h
      split at h
      · rename_i hj
        simp only [Option.some.injEq, Prod.mk.injEq] at h
        obtain ⟨rfl, rfl⟩ := h
        subst hj
        have hN : Rep w g (.w id 0 N) (.slice (g.ρ id).A N (g.ρ id).cap) := by
          obtain ⟨l1, l2, l3, l4, l5⟩ := hv.lies id _ hs
          refine .w _ _ _ _ _ (hv.told id _ hs) l2 (fun _ => ⟨rfl, rfl⟩) fun hp => ?_
          rcases l5 with h0 | ⟨b, us, f1, _⟩
          · omega
          · exact ⟨b, f1, f1⟩
        obtain ⟨A, c, e1, e2, k⟩ := own_sound hv V h1 hN hs (Nat.le_refl N) hd (fun i hi => by simp at hi) (h3 id List.mem_cons_self)
        simp only [tk, if_true] at k
        cases hx with
        | p _ ad us hV q1 q2 =>
          have r1 := q1 0 _ rfl
          have r2 := q2 0 _ rfl
          generalize us 0 = u0 at r1 r2
          cases r2 with
          | w _ _ _ c' A' hD hn k0 k1 =>
            exact .pw (A0 := (g.ρ id).A) (c0 := (g.ρ id).cap) k hn k0 k1 (h1 _ hV) r1
      · cases h
    · cases h
  · rename_i hn1 hn2 hn3 hn4
    have hpl : placeOf g σ x = ⟨none, 0⟩ := by
      unfold placeOf
      split
      · rename_i id
        exact (hn2 id rfl).elim
      · rename_i id lo n
        exact (hn3 id lo n rfl).elim
      · rename_i id lo n
        exact (hn4 id lo n rfl).elim
      · rfl
    rw [hpl]
    exact pl (fun xs e => hn1 xs e) hx h

theorem packL_sound (hv : Inv w g σ) (V : Nat → Prop) (h1 : ∀ b, g.V b → V b) : ∀ (xs ys : List AV) (us : List Value) (is : List Nat), us.length = xs.length → (∀ (j : Nat) (x : AV) (u : Value), xs[j]? = some x → us[j]? = some u → Rep w g x u) → deepC (pack1 σ) xs = some (ys, is) →
    (∀ i ∈ is, ∀ s, σ i = some s → ∀ b, blockOf g i s = some b → ¬ V b) → LentL w V ys us (xs.map (placeOf g σ)) (blocksOf g σ is)
  | [], ys, us, is, hl, hr, h, h3 => by
    simp only [deepC, Option.some.injEq, Prod.mk.injEq] at h
    obtain ⟨rfl, rfl⟩ := h
    have : us = [] := List.eq_nil_of_length_eq_zero (by simpa using hl)
    subst this
    exact .nil
  | x :: xs, ys, us, is, hl, hr, h, h3 => by
    simp only [deepC] at h
    obtain ⟨⟨y, js⟩, e1, h⟩ := Option.bind_eq_some_iff.1 h
    obtain ⟨⟨ys', ks⟩, e2, h⟩ := Option.map_eq_some_iff.1 h
    simp only [Prod.mk.injEq] at h
    obtain ⟨rfl, rfl⟩ := h
    match us, hl with
    | u :: us, hl =>
      rw [blocksOf_append]
      exact .cons (pack1_sound hv (hr 0 x u rfl rfl) e1 V h1 fun i hi => h3 i (List.mem_append_left _ hi))
        (packL_sound hv V h1 xs ys' us ks (by simpa using hl) (fun j x u hj hu => hr (j + 1) x u (by simpa using hj) (by simpa using hu)) e2 fun i hi => h3 i (List.mem_append_right _ hi))

/-- Rows taken in, one after the other. -/
theorem rowsIn_sound {key : Nat} : ∀ (xs : List AV) (us : List Value) (B : List Nat) (k : Nat) (w1 : World) (g1 : G) (σ1 : Sto), Adv w g σ key w1 g1 σ1 → (∀ i, k ≤ i → i < key + 4 → ¬ g1.D i) → key ≤ k → (rowsIn σ1 k xs).2.2 ≤ key + 4 →
    ResL w1 g1.V xs us B → B.Nodup → (∀ b ∈ B, (w.heap.size ≤ b ∨ ∃ j0 t0, σ j0 = some t0 ∧ blockOf g j0 t0 = some b) ∧ ∀ j t, σ1 j = some t → blockOf g1 j t ≠ some b) →
    ∃ g2, Adv w g σ key w1 g2 (rowsIn σ1 k xs).2.1 ∧ Onto w1 g1 w1 g2 ∧ g2.V = g1.V ∧ (∀ i, (rowsIn σ1 k xs).2.2 ≤ i → i < key + 4 → ¬ g2.D i) ∧ k ≤ (rowsIn σ1 k xs).2.2 ∧ (rowsIn σ1 k xs).1.length = us.length ∧
      (∀ (j : Nat) (y : AV) (u : Value), (rowsIn σ1 k xs).1[j]? = some y → us[j]? = some u → Rep w1 g2 y u) ∧ (∀ j t b, (rowsIn σ1 k xs).2.1 j = some t → blockOf g2 j t = some b → b ∈ B ∨ ∃ j0 t0, σ1 j0 = some t0 ∧ blockOf g1 j0 t0 = some b)
  | [], us, B, k, w1, g1, σ1, h, hD, hk, hkl, hr, hnd, hB => by
    cases hr
    exact ⟨g1, h, Onto.refl _ _, rfl, hD, Nat.le_refl _, rfl, fun j y u hj => by simp [rowsIn] at hj, fun j t b hj hb => .inr ⟨j, t, hj, hb⟩⟩
  | x :: xs, _, _, k, w1, g1, σ1, h, hD, hk, hkl, .cons (u := u) (B := B) (us := us) (Bs := Bs) hr1 hr2, hnd, hB => by
    rw [List.nodup_append] at hnd
    by_cases ho : ∃ E sz n cs, x = .o E sz n cs
    · obtain ⟨E, sz, n, cs, rfl⟩ := ho
      have hrow : rowsIn σ1 k (.o E sz n cs :: xs) = (.w k 0 n :: (rowsIn (upd σ1 k (some (.row E sz n cs))) (k + 1) xs).1, (rowsIn (upd σ1 k (some (.row E sz n cs))) (k + 1) xs).2) := rfl
      rw [hrow] at hkl ⊢
      simp only at hkl ⊢
      have hcc : closedL cs = true := by
        obtain ⟨A, c, _, _, _, _, _, hcc, _⟩ := hr1
        exact hcc
      have hle : ∀ (xs : List AV) (σ : Sto) (k : Nat), k ≤ (rowsIn σ k xs).2.2 := by
        intro xs
        induction xs with
        | nil => exact fun _ _ => Nat.le_refl _
        | cons x xs ih =>
          intro σ k
          cases x
          case o E sz n cs => exact Nat.le_of_succ_le (ih _ (k + 1))
          all_goals exact ih _ k
      have hle1 := hle xs (upd σ1 k (some (.row E sz n cs))) (k + 1)
      obtain ⟨g2, h2, hrep, hon, hV, hDD, hlv⟩ := adopt1_sound (y := .w k 0 n) (σ2 := upd σ1 k (some (.row E sz n cs))) h (hD k (Nat.le_refl _) (by omega)) ⟨hk, by omega⟩ hr1 (fun b hb => hB b (List.mem_append_left _ hb)) (by simp only [adopt1, hcc, if_true])
      obtain ⟨g3, h3, hon3, hV3, hD3, hk3, hl3, hr3, hlv3⟩ := rowsIn_sound xs us Bs (k + 1) w1 g2 (upd σ1 k (some (.row E sz n cs))) h2 (fun i h4 h5 h6 => by
        rcases hDD i h6 with h7 | h7
        · exact hD i (by omega) h5 h7
        · omega) (by omega) hkl (by rw [hV]; exact hr2) hnd.2.1 (fun b hb => ⟨(hB b (List.mem_append_right _ hb)).1, fun j t hj hbl => by
          rcases hlv j t b hj hbl with h7 | ⟨j0, t0, h7, h8⟩
          · exact hnd.2.2 b h7 b hb rfl
          · exact (hB b (List.mem_append_right _ hb)).2 j0 t0 h7 h8⟩)
      refine ⟨g3, h3, hon.trans hon3, hV3.trans hV, hD3, by omega, by simp [hl3], fun j y' u' hj hu => ?_, fun j t b hj hb => ?_⟩
      · cases j with
        | zero =>
          simp at hj hu
          subst hj hu
          exact hrep.onto hon3
        | succ j => exact hr3 j y' u' (by simpa using hj) (by simpa using hu)
      · rcases hlv3 j t b hj hb with h7 | ⟨j0, t0, h7, h8⟩
        · exact .inl (List.mem_append_right _ h7)
        · rcases hlv j0 t0 b h7 h8 with h9 | h9
          · exact .inl (List.mem_append_left _ h9)
          · exact .inr h9
    · have hrow : rowsIn σ1 k (x :: xs) = (x :: (rowsIn σ1 k xs).1, (rowsIn σ1 k xs).2) := by
        cases x
        case o E sz n cs => exact (ho ⟨E, sz, n, cs, rfl⟩).elim
        all_goals rfl
      have hone : B = [] ∧ closed x = true ∧ Rep w1 (gV g1.V) x u := by
        cases x
        case o E sz n cs => exact (ho ⟨E, sz, n, cs, rfl⟩).elim
        all_goals exact hr1
      obtain ⟨rfl, hc, hrep⟩ := hone
      rw [hrow] at hkl ⊢
      simp only at hkl ⊢
      obtain ⟨g3, h3, hon3, hV3, hD3, hk3, hl3, hr3, hlv3⟩ := rowsIn_sound xs us Bs k w1 g1 σ1 h hD hk hkl hr2 hnd.2.1 (fun b hb => hB b (List.mem_append_right _ hb))
      refine ⟨g3, h3, hon3, hV3, hD3, hk3, by simp [hl3], fun j y' u' hj hu => ?_, fun j t b hj hb => ?_⟩
      · cases j with
        | zero =>
          simp at hj hu
          subst hj hu
          exact (hrep.closed_to (g' := g1) hc fun _ h => h).onto hon3
        | succ j => exact hr3 j y' u' (by simpa using hj) (by simpa using hu)
      · rcases hlv3 j t b hj hb with h7 | h7
        · exact .inl (List.mem_append_right _ h7)
        · exact .inr h7

/-- A number that is told lies as a slot says, from now on. -/
theorem Adv.readd {key id : Nat} {w1 : World} {g1 : G} {σ1 : Sto} (h : Adv w g σ key w1 g1 σ1) (hD : g1.D id) (s : Slot) (hl : Lies w1 g1 id s)
    (hb : ∀ b, blockOf g1 id s = some b → (w.heap.size ≤ b ∨ ∃ j0 t0, σ j0 = some t0 ∧ blockOf g j0 t0 = some b) ∧ ∀ j t, j ≠ id → σ1 j = some t → blockOf g1 j t ≠ some b) : Adv w g σ key w1 g1 (upd σ1 id (some s)) := by
  have hv := h.inv
  refine ⟨h.onto, ⟨hv.vlt, fun i t hi => ?_, fun i t hi => ?_, fun i j t u b hij hi hj hib => ?_⟩, h.os, h.tape, h.output, h.size, h.keep, h.newV, fun i t b hi hib => ?_, h.newD⟩
  · by_cases e : i = id
    · subst e
      simp only [upd, if_true, Option.some.injEq] at hi
      exact hi ▸ hl
    · exact hv.lies i t (by simpa [upd, e] using hi)
  · by_cases e : i = id
    · exact e ▸ hD
    · exact hv.told i t (by simpa [upd, e] using hi)
  · by_cases e : i = id
    · subst e
      simp only [upd, if_true, Option.some.injEq] at hi
      subst hi
      exact (hb b hib).2 j u (Ne.symm hij) (by simpa [upd, Ne.symm hij] using hj)
    · have hi' : σ1 i = some t := by simpa [upd, e] using hi
      by_cases e2 : j = id
      · subst e2
        simp only [upd, if_true, Option.some.injEq] at hj
        subst hj
        exact fun h2 => (hb b h2).2 i t e hi' hib
      · exact hv.apart i j t u b hij hi' (by simpa [upd, e2] using hj) hib
  · by_cases e : i = id
    · subst e
      simp only [upd, if_true, Option.some.injEq] at hi
      subst hi
      exact (hb b hib).1
    · exact h.live i t b (by simpa [upd, e] using hi) hib

theorem back_sound {key : Nat} {w1 : World} : ∀ (xs outs : List AV) (us : List Value) (B : List Nat) (k : Nat) (g1 : G) (σ1 σ2 : Sto) (k2 : Nat) (σ0 : Sto), Adv w g σ key w1 g1 σ1 → (∀ i, k ≤ i → i < key + 4 → ¬ g1.D i) → key ≤ k → k2 ≤ key + 4 →
    us.length = xs.length → (∀ (j : Nat) (x : AV) (u : Value), xs[j]? = some x → us[j]? = some u → Rep w g x u) →
    LentO w1 g1.V outs us (xs.map (placeOf g σ0)) B → B.Nodup → (∀ b ∈ B, (w.heap.size ≤ b ∨ ∃ j0 t0, σ j0 = some t0 ∧ blockOf g j0 t0 = some b) ∧ ∀ j t, σ1 j = some t → blockOf g1 j t ≠ some b) → back σ1 k xs outs = some (σ2, k2) →
    ∃ g2, Adv w g σ key w1 g2 σ2 ∧ Onto w1 g1 w1 g2 ∧ g2.V = g1.V ∧ (∀ i, k2 ≤ i → i < key + 4 → ¬ g2.D i) ∧ k ≤ k2 ∧ (∀ j t b, σ2 j = some t → blockOf g2 j t = some b → b ∈ B ∨ ∃ j0 t0, σ1 j0 = some t0 ∧ blockOf g1 j0 t0 = some b)
  | [], outs, us, B, k, g1, σ1, σ2, k2, σ0, h, hD, hk, hk2, hl, hr, hL, hnd, hB, hb => by
    cases outs with
    | nil =>
      simp only [back, Option.some.injEq, Prod.mk.injEq] at hb
      obtain ⟨rfl, rfl⟩ := hb
      exact ⟨g1, h, Onto.refl _ _, rfl, hD, Nat.le_refl _, fun j t b hj hb => .inr ⟨j, t, hj, hb⟩⟩
    | cons y ys => simp [back] at hb
  | x :: xs, outs, us, B, k, g1, σ1, σ2, k2, σ0, h, hD, hk, hk2, hl, hr, hL, hnd, hB, hb => by
    have hle : ∀ (xs : List AV) (σ : Sto) (k : Nat), k ≤ (rowsIn σ k xs).2.2 := by
      intro xs
      induction xs with
      | nil => exact fun _ _ => Nat.le_refl _
      | cons x xs ih =>
        intro σ k
        cases x
        case o E sz n cs => exact Nat.le_of_succ_le (ih _ (k + 1))
        all_goals exact ih _ k
    have hbk : ∀ (xs ys : List AV) (σ : Sto) (k : Nat) (σ' : Sto) (k' : Nat), back σ k xs ys = some (σ', k') → k ≤ k' := by
      intro xs
      induction xs with
      | nil =>
        intro ys σ k σ' k' h
        cases ys <;> simp [back] at h
        omega
      | cons x xs ih =>
        intro ys σ k σ' k' h
        cases ys with
        | nil => simp [back] at h
        | cons y ys =>
          simp only [back] at h
          split at h
          · exact Nat.le_trans (hle _ _ _) (ih _ _ _ _ _ h)
          · exact ih _ _ _ _ _ h
          · exact ih _ _ _ _ _ h
          · exact ih _ _ _ _ _ h
    cases outs with
    | nil => simp [back] at hb
    | cons y ys =>
      match us, hl with
      | u :: us, hl =>
        generalize hcs : (x :: xs).map (placeOf g σ0) = cs0 at hL
        cases hL with
        | gone hys =>
          rename_i c1 cs1
          simp only [List.map_cons, List.cons.injEq] at hcs
          obtain ⟨hc1, rfl⟩ := hcs
          have hrest : ∀ (j : Nat) (x : AV) (u : Value), xs[j]? = some x → us[j]? = some u → Rep w g x u := fun j x u hj hu => hr (j + 1) x u (by simpa using hj) (by simpa using hu)
          have hb' : back σ1 k xs ys = some (σ2, k2) := by
            simp only [back] at hb
            exact hb
          exact back_sound xs ys us B k g1 σ1 σ2 k2 σ0 h hD hk hk2 (by simpa using hl) hrest hys hnd hB hb'
        | cons hy hys =>
          rename_i c1 B1 cs1 Bs
          simp only [List.map_cons, List.cons.injEq] at hcs
          obtain ⟨hc1, rfl⟩ := hcs
          rw [List.nodup_append] at hnd
          have hrx := hr 0 x u rfl rfl
          have hrest : ∀ (j : Nat) (x : AV) (u : Value), xs[j]? = some x → us[j]? = some u → Rep w g x u := fun j x u hj hu => hr (j + 1) x u (by simpa using hj) (by simpa using hu)
          have hB1 := fun b hb => hB b (List.mem_append_left (bs := Bs) (as := B1) hb)
          have hB2 := fun b hb => hB b (List.mem_append_right (as := B1) (bs := Bs) hb)
          simp only [back] at hb
          split at hb
          · -- an object
            rename_i id T ps hlx
            have hk3 := hbk _ _ _ _ _ _ hb
            generalize hq : (.t (.v (.bool true) :: .v (.int .i64 T) :: ps) : AV) = q at hy
            cases hy with
            | pl ht hc hrr => exact (ht _ hq.symm).elim
            | row => simp at hq
            | pw => simp at hq
            | ob hh hres hnv =>
              rename_i T' ps' b vs Bo
              simp only [ni, AV.t.injEq, List.cons.injEq, AV.v.injEq, Value.int.injEq, true_and] at hq
              obtain ⟨rfl, rfl⟩ := hq
              simp only [Int.toNat_natCast] at hb
              cases hrx with
              | r _ _ _ hDid hA =>
                rw [List.nodup_cons] at hnd
                obtain ⟨g2, h2, hon, hV2, hD2, hkk, hl2, hr2, hlv2⟩ := rowsIn_sound ps vs.toList Bo k w1 g1 σ1 h hD hk (Nat.le_trans hk3 hk2) hres hnd.1.2 (fun b hb => hB1 b (List.mem_cons_of_mem _ hb))
                have hon2 : Onto w g w1 g2 := h2.onto
                have hrho : (g2.ρ id).A = some ⟨b, 0, none⟩ := by rw [hon2.ρ _ hDid]; exact hA
                have hlies : Lies w1 g2 id (.ob T' (rowsIn σ1 k ps).1) := by
                  refine ⟨b, vs, hrho, hh, by simpa using hl2.symm, fun j c hj => ?_, by rw [hV2]; exact hnv⟩
                  have hlt : j < vs.size := by
                    have := (List.getElem?_eq_some_iff.1 hj).1
                    simp at hl2
                    omega
                  exact ⟨vs[j], by simp [hlt], hr2 j c vs[j] hj (by simp [hlt])⟩
                have h3 := h2.readd (hon2.D _ hDid) _ hlies (fun b' hb' => by
                  simp only [blockOf, hrho, Option.map_some, Option.some.injEq] at hb'
                  subst hb'
                  refine ⟨(hB1 b List.mem_cons_self).1, fun j t _ hj hbl => ?_⟩
                  rcases hlv2 j t b hj hbl with h7 | ⟨j0, t0, h7, h8⟩
                  · exact hnd.1.1 h7
                  · exact (hB1 b List.mem_cons_self).2 j0 t0 h7 h8)
                have hlv3 : ∀ j t b', upd (rowsIn σ1 k ps).2.1 id (some (.ob T' (rowsIn σ1 k ps).1)) j = some t → blockOf g2 j t = some b' → b' ∈ b :: Bo ∨ ∃ j0 t0, σ1 j0 = some t0 ∧ blockOf g1 j0 t0 = some b' := by
                  intro j t b' hj hbl
                  by_cases e : j = id
                  · subst e
                    simp only [upd, if_true, Option.some.injEq] at hj
                    subst hj
                    simp only [blockOf, hrho, Option.map_some, Option.some.injEq] at hbl
                    exact .inl (hbl ▸ List.mem_cons_self)
                  · rcases hlv2 j t b' (by simpa [upd, e] using hj) hbl with h7 | h7
                    · exact .inl (List.mem_cons_of_mem _ h7)
                    · exact .inr h7
                obtain ⟨g3, i1, i2, i3, i4, i5, i6⟩ := back_sound xs ys us Bs _ g2 _ σ2 k2 σ0 h3 hD2 (Nat.le_trans hk hkk) hk2 (by simpa using hl) hrest (by rw [hV2]; exact hys) hnd.2.1 (fun b' hb' => ⟨(hB2 b' hb').1, fun j t hj hbl => by
                  rcases hlv3 j t b' hj hbl with h7 | ⟨j0, t0, h7, h8⟩
                  · exact hnd.2.2 b' h7 b' hb' rfl
                  · exact (hB2 b' hb').2 j0 t0 h7 h8⟩) hb
                refine ⟨g3, i1, hon.trans i2, i3.trans hV2, i4, Nat.le_trans hkk i5, fun j t b' hj hbl => ?_⟩
                rcases i6 j t b' hj hbl with h7 | ⟨j0, t0, h7, h8⟩
                · exact .inl (List.mem_append_right _ h7)
                · rcases hlv3 j0 t0 b' h7 h8 with h9 | h9
                  · exact .inl (List.mem_append_left _ h9)
                  · exact .inr h9
          · -- a row
            rename_i id lo0 n0 z1 z2 E sz N cs hlx
            generalize hq : (.t [.v (.bool false), z1, z2, .o E sz N cs] : AV) = q at hy
            cases hy with
            | pl ht hc hrr => exact (ht _ hq.symm).elim
            | ob => simp at hq
            | pw => simp at hq
            | row hres hn h0 h1 =>
              rename_i lo n E' sz' N' cs' A0 c0 A c
              simp only [AV.t.injEq, List.cons.injEq, AV.o.injEq, true_and, and_true] at hq
              obtain ⟨_, _, rfl, rfl, rfl, rfl⟩ := hq
              have hpl : g.ρ id = ⟨A0, c0⟩ := hc1
              have hDid : g.D id := by cases hrx; assumption
              have hrho : g1.ρ id = ⟨A0, c0⟩ := (h.onto.ρ _ hDid).trans hpl
              obtain ⟨A1, c1, e0, l1, l2, l3, l4, hcc, hblk⟩ := hres
              simp only [Value.slice.injEq, true_and] at e0
              obtain ⟨rfl, rfl⟩ := e0
              have hlies : Lies w1 g1 id (.row E sz N cs) := by
                refine ⟨l1, by rw [hrho]; exact l2, by rw [hrho]; exact l3, l4, ?_⟩
                rcases hblk with ⟨q1, q2⟩ | ⟨b, vs, q1, q2, q3, q4, q5, q6⟩
                · exact .inl (by rw [hrho]; exact q1)
                · exact .inr ⟨b, vs, by rw [hrho]; exact q2, q3, by rw [hrho]; exact q4, fun j c hj => by
                    obtain ⟨v, f1, f2⟩ := q5 j c hj
                    exact ⟨v, f1, f2.closed_to (closedL_mem cs hcc j c hj) fun _ h => h⟩, q6⟩
              have hbo : ∀ b, blockOf g1 id (.row E sz N cs) = some b → b ∈ B1 := by
                intro b hb'
                simp only [blockOf, hrho] at hb'
                split at hb'
                · cases hb'
                · rcases hblk with ⟨q1, q2⟩ | ⟨b2, vs, q1, q2, _⟩
                  · contradiction
                  · rw [q2] at hb'
                    simp only [Option.map_some, Option.some.injEq] at hb'
                    rw [q1, ← hb']
                    exact List.mem_cons_self
              have h3 := h.readd (h.onto.D _ hDid) _ hlies (fun b hb' => ⟨(hB1 b (hbo b hb')).1, fun j t _ hj => (hB1 b (hbo b hb')).2 j t hj⟩)
              have hlv3 : ∀ j t b', upd σ1 id (some (.row E sz N cs)) j = some t → blockOf g1 j t = some b' → b' ∈ B1 ∨ ∃ j0 t0, σ1 j0 = some t0 ∧ blockOf g1 j0 t0 = some b' := by
                intro j t b' hj hbl
                by_cases e : j = id
                · subst e
                  simp only [upd, if_true, Option.some.injEq] at hj
                  subst hj
                  exact .inl (hbo b' hbl)
                · exact .inr ⟨j, t, by simpa [upd, e] using hj, hbl⟩
              obtain ⟨g3, i1, i2, i3, i4, i5, i6⟩ := back_sound xs ys us Bs _ g1 _ σ2 k2 σ0 h3 hD hk hk2 (by simpa using hl) hrest hys hnd.2.1 (fun b' hb' => ⟨(hB2 b' hb').1, fun j t hj hbl => by
                rcases hlv3 j t b' hj hbl with h7 | ⟨j0, t0, h7, h8⟩
                · exact hnd.2.2 b' h7 b' hb' rfl
                · exact (hB2 b' hb').2 j0 t0 h7 h8⟩) hb
              refine ⟨g3, i1, i2, i3, i4, i5, fun j t b' hj hbl => ?_⟩
              rcases i6 j t b' hj hbl with h7 | ⟨j0, t0, h7, h8⟩
              · exact .inl (List.mem_append_right _ h7)
              · rcases hlv3 j0 t0 b' h7 h8 with h9 | h9
                · exact .inl (List.mem_append_left _ h9)
                · exact .inr h9
          · -- a pointer to a row's slice
            rename_i id lo0 n0 z1 z2 E sz N cs hlx
            generalize hq : (.t [.t [.v (.bool false), z1, z2, .o E sz N cs]] : AV) = q at hy
            cases hy with
            | pl ht hc hrr => exact (ht _ hq.symm).elim
            | ob => simp at hq
            | row => simp at hq
            | pw hres hn h0 h1 hpV hpc =>
              rename_i lo n E' sz' N' cs' A0 c0 A c ad
              simp only [AV.t.injEq, List.cons.injEq, AV.o.injEq, true_and, and_true] at hq
              obtain ⟨_, _, rfl, rfl, rfl, rfl⟩ := hq
              have hpl : g.ρ id = ⟨A0, c0⟩ := hc1
              have hDid : g.D id := by
                cases hrx with
                | p _ ad us hV q1 q2 =>
                  have r2 := q2 0 _ rfl
                  generalize us 0 = u0 at r2
                  cases r2; assumption
              have hrho : g1.ρ id = ⟨A0, c0⟩ := (h.onto.ρ _ hDid).trans hpl
              obtain ⟨A1, c1, e0, l1, l2, l3, l4, hcc, hblk⟩ := hres
              simp only [Value.slice.injEq, true_and] at e0
              obtain ⟨rfl, rfl⟩ := e0
              have hlies : Lies w1 g1 id (.row E sz N cs) := by
                refine ⟨l1, by rw [hrho]; exact l2, by rw [hrho]; exact l3, l4, ?_⟩
                rcases hblk with ⟨q1, q2⟩ | ⟨b, vs, q1, q2, q3, q4, q5, q6⟩
                · exact .inl (by rw [hrho]; exact q1)
                · exact .inr ⟨b, vs, by rw [hrho]; exact q2, q3, by rw [hrho]; exact q4, fun j c hj => by
                    obtain ⟨v, f1, f2⟩ := q5 j c hj
                    exact ⟨v, f1, f2.closed_to (closedL_mem cs hcc j c hj) fun _ h => h⟩, q6⟩
              have hbo : ∀ b, blockOf g1 id (.row E sz N cs) = some b → b ∈ B1 := by
                intro b hb'
                simp only [blockOf, hrho] at hb'
                split at hb'
                · cases hb'
                · rcases hblk with ⟨q1, q2⟩ | ⟨b2, vs, q1, q2, _⟩
                  · contradiction
                  · rw [q2] at hb'
                    simp only [Option.map_some, Option.some.injEq] at hb'
                    rw [q1, ← hb']
                    exact List.mem_cons_self
              have h3 := h.readd (h.onto.D _ hDid) _ hlies (fun b hb' => ⟨(hB1 b (hbo b hb')).1, fun j t _ hj => (hB1 b (hbo b hb')).2 j t hj⟩)
              have hlv3 : ∀ j t b', upd σ1 id (some (.row E sz N cs)) j = some t → blockOf g1 j t = some b' → b' ∈ B1 ∨ ∃ j0 t0, σ1 j0 = some t0 ∧ blockOf g1 j0 t0 = some b' := by
                intro j t b' hj hbl
                by_cases e : j = id
                · subst e
                  simp only [upd, if_true, Option.some.injEq] at hj
                  subst hj
                  exact .inl (hbo b' hbl)
                · exact .inr ⟨j, t, by simpa [upd, e] using hj, hbl⟩
              obtain ⟨g3, i1, i2, i3, i4, i5, i6⟩ := back_sound xs ys us Bs _ g1 _ σ2 k2 σ0 h3 hD hk hk2 (by simpa using hl) hrest hys hnd.2.1 (fun b' hb' => ⟨(hB2 b' hb').1, fun j t hj hbl => by
                rcases hlv3 j t b' hj hbl with h7 | ⟨j0, t0, h7, h8⟩
                · exact hnd.2.2 b' h7 b' hb' rfl
                · exact (hB2 b' hb').2 j0 t0 h7 h8⟩) hb
              refine ⟨g3, i1, i2, i3, i4, i5, fun j t b' hj hbl => ?_⟩
              rcases i6 j t b' hj hbl with h7 | ⟨j0, t0, h7, h8⟩
              · exact .inl (List.mem_append_right _ h7)
              · rcases hlv3 j0 t0 b' h7 h8 with h9 | h9
                · exact .inl (List.mem_append_left _ h9)
                · exact .inr h9
          · obtain ⟨g3, i1, i2, i3, i4, i5, i6⟩ := back_sound xs ys us Bs _ g1 _ σ2 k2 σ0 h hD hk hk2 (by simpa using hl) hrest hys hnd.2.1 hB2 hb
            refine ⟨g3, i1, i2, i3, i4, i5, fun j t b' hj hbl => ?_⟩
            rcases i6 j t b' hj hbl with h7 | h7
            · exact .inl (List.mem_append_right _ h7)
            · exact .inr h7
end
end Go.Proofs.YtegbkihgnofkfaaGreatDoor.Ev

/-
The engine, part 14c: the call of a function that may change what it is given.
-/
namespace Go.Proofs.YtegbkihgnofkfaaGreatDoor.Ev
section
set_option linter.unusedVariables false
set_option linter.unusedSimpArgs false
open Go Go.RowKit
set_option linter.unusedVariables false
set_option linter.unusedSimpArgs false
variable {P : Program} {I : Tab} {w : World} {g : G} {σ : Sto} {e : Nat → AV} {a : Act}

theorem adv_lent (hv : Inv w g σ) (key : Nat) (L : List Nat) {w1 : World} {V : Nat → Prop} (ho : w1.os = w.os) (ht : w1.tape = w.tape) (hu : w1.output = w.output) (hs : w.heap.size ≤ w1.heap.size)
    (hk : ∀ k, k < w.heap.size → k ∉ blocksOf g σ L → w1.heap[k]? = w.heap[k]?) (h1 : ∀ b, g.V b → V b) (h2 : ∀ b, V b → (g.V b ∨ w.heap.size ≤ b ∨ b ∈ blocksOf g σ L) ∧ b < w1.heap.size) :
    Adv w g σ key w1 ⟨V, g.ρ, g.D⟩ (killL σ L) := by
  have hnV : ∀ b, b ∈ blocksOf g σ L → ¬ g.V b ∧ b < w.heap.size := fun b hb => by
    obtain ⟨i, _, s, h3, h4⟩ := mem_blocksOf.1 hb
    exact ⟨((hv.lies i s h3).lt h4).2, ((hv.lies i s h3).lt h4).1⟩
  have hon : Onto w g w1 ⟨V, g.ρ, g.D⟩ := ⟨h1, fun b hb => hk b (hv.vlt b hb) fun h => (hnV b h).1 hb, fun _ h => h, fun _ _ => rfl⟩
  have hbl : ∀ i s, blockOf ⟨V, g.ρ, g.D⟩ i s = blockOf g i s := fun i s => by cases s <;> rfl
  have hsub : ∀ i s, killL σ L i = some s → i ∉ L ∧ σ i = some s := by
    intro i s hi
    unfold killL at hi
    split at hi
    · cases hi
    · exact ⟨‹_›, hi⟩
  have hnot : ∀ i s b, killL σ L i = some s → blockOf g i s = some b → b ∉ blocksOf g σ L := by
    intro i s b hi hb hm
    obtain ⟨j, hj, t, h3, h4⟩ := mem_blocksOf.1 hm
    obtain ⟨h5, h6⟩ := hsub i s hi
    exact hv.apart i j s t b (fun e => h5 (e ▸ hj)) h6 h3 hb h4
  refine ⟨hon, ⟨fun b hb => (h2 b hb).2, fun i t hi => ?_, fun i t hi => hv.told i t (hsub i t hi).2, fun i j t u b hij hi hj hb => ?_⟩, ho, ht, hu, hs, fun b hb hne => hk b hb fun hm => ?_, fun b hb => ?_, fun i t b hi hb => .inr ⟨i, t, (hsub i t hi).2, by rwa [hbl] at hb⟩, fun i hi => .inl hi⟩
  · have hi' := (hsub i t hi).2
    refine (hv.lies i t hi').onto hon (hv.told i t hi') fun b hb => ?_
    have hlt := (hv.lies i t hi').lt hb
    refine ⟨hk b hlt.1 (hnot i t b hi hb), fun h => ?_⟩
    rcases (h2 b h).1 with h3 | h3 | h3
    · exact hlt.2 h3
    · omega
    · exact hnot i t b hi hb h3
  · rw [hbl] at hb ⊢
    exact hv.apart i j t u b hij (hsub i t hi).2 (hsub j u hj).2 hb
  · obtain ⟨i, _, s, h3, h4⟩ := mem_blocksOf.1 hm
    exact hne i s h3 h4
  · rcases (h2 b hb).1 with h3 | h3 | h3
    · exact .inl h3
    · exact .inr (.inl h3)
    · obtain ⟨i, _, s, h4, h5⟩ := mem_blocksOf.1 h3
      exact .inr (.inr ⟨i, s, h4, h5⟩)

theorem adv_frz0 (hv : Inv w g σ) (key : Nat) : ∀ (ids : List Nat), ∃ g1, Adv w g σ key w g1 (frz0 σ ids) ∧ g1.D = g.D
  | [] => ⟨g, Adv.same hv key, rfl⟩
  | i :: is => ⟨_, adv_frz hv key 8 (i :: is), rfl⟩

theorem call_lent (hv : Inv w g σ) (henv : Env w g e a) {key : Nat} (hD : ∀ i, key ≤ i → i < key + 4 → ¬ g.D i) {o : Oper} {f : FuncId} {args : Array Operand} {tys : Array TypeId}
    (hop : o.op = .call { callee := .value (.func f), args := args, argTypes := tys }) {F : List Nat} {ps : List AV} {L : List Nat} (hl : deepC (pack1 (frz0 σ F)) (args.toList.map (val e)) = some (ps, L)) (hL : L.Nodup)
    {x : AV} {outs : List AV} (hC : LentOk P f ps (.t [x, .t outs])) {σ1 : Sto} {k1 : Nat} (hb : back (killL (frz0 σ F) L) key (args.toList.map (val e)) outs = some (σ1, k1)) (hroom : k1 + room x ≤ key + 4)
    {y : AV} {σ2 : Sto} (had : adopt σ1 k1 x = some (y, σ2)) {next : Act → World → Prop} {Q : Exit → Act → World → Prop} (hN : ∀ u w1 g1, Adv w g σ key w1 g1 σ2 → Rep w1 g1 y u → next (a.put o.dst u) w1) : o.wp P a w next Q := by
  obtain ⟨⟨fn, hf, hname, hbo⟩, x', outs', hr, hcall⟩ := hC
  simp only [AV.t.injEq, List.cons.injEq, and_true] at hr
  obtain ⟨rfl, rfl⟩ := hr
  have h2 : ¬ fn.body = none := by cases hx : fn.body <;> simp_all
  have hrun : (execOp a.eval o).run P w = .ok (.enter f (args.map a.eval)) w := by
    have h1 : ¬ fn.name = "runtime.NumGoroutine" := by simpa using hname
    unfold execOp
    simp [hop, resolve, Deferred.ofValue, invoke, callFunc, hf, h1, h2, Act.eval]
  unfold Oper.wp
  rw [hrun]
  show Calls P f (args.map a.eval) w _
  obtain ⟨gf, hadf, hDf⟩ := adv_frz0 hv key F
  have hvf := hadf.inv
  have hreps : ∀ (j : Nat) (x : AV) (u : Value), (args.toList.map (val e))[j]? = some x → (args.toList.map a.eval)[j]? = some u → Rep w gf x u := fun j x u hj hu => by
    simp only [List.getElem?_map] at hj hu
    obtain ⟨q, hq, rfl⟩ := Option.map_eq_some_iff.1 hj
    rw [hq] at hu
    simp only [Option.map_some, Option.some.injEq] at hu
    subst hu
    exact (henv.val q).onto hadf.onto
  have harr : args.map a.eval = (args.toList.map a.eval).toArray := by rw [← Array.toList_map, Array.toArray_toList]
  rw [harr]
  have hpk := packL_sound hvf gf.V (fun _ h => h) (args.toList.map (val e)) ps (args.toList.map a.eval) L (by simp) hreps hl fun i _ s hs b hb => ((hvf.lies i s hs).lt hb).2
  refine (hcall w gf.V _ _ _ hvf.vlt hpk (blocksOf_nodup hvf L hL)).mono ?_
  rintro en w' ⟨V', u, B1, B2, rfl, q1, q2, q3, q4, q5, q6, q7, hres, hlent, hnd, hBB⟩
  have hadv : Adv w gf (frz0 σ F) key w' ⟨V', gf.ρ, gf.D⟩ (killL (frz0 σ F) L) := adv_lent hvf key L q1 q2 q3 q4 q5 q6 q7
  rw [List.nodup_append] at hnd
  have hall : ∀ b ∈ B1 ++ B2, (w.heap.size ≤ b ∨ ∃ j0 t0, frz0 σ F j0 = some t0 ∧ blockOf gf j0 t0 = some b) ∧ ∀ j t, killL (frz0 σ F) L j = some t → blockOf ⟨V', gf.ρ, gf.D⟩ j t ≠ some b := by
    intro b hb'
    have hkl : ∀ j t, killL (frz0 σ F) L j = some t → blockOf ⟨V', gf.ρ, gf.D⟩ j t = some b → j ∉ L ∧ frz0 σ F j = some t ∧ blockOf gf j t = some b := by
      intro j t hj hbl
      unfold killL at hj
      split at hj
      · cases hj
      · exact ⟨‹_›, hj, by cases t <;> exact hbl⟩
    rcases hBB b hb' with h3 | h3
    · obtain ⟨i, hi, s, h4, h5⟩ := mem_blocksOf.1 h3
      refine ⟨.inr ⟨i, s, h4, h5⟩, fun j t hj hbl => ?_⟩
      obtain ⟨k1, k2, k3⟩ := hkl j t hj hbl
      exact hvf.apart i j s t b (fun e => k1 (e ▸ hi)) h4 k2 h5 k3
    · refine ⟨.inl h3, fun j t hj hbl => ?_⟩
      obtain ⟨k1, k2, k3⟩ := hkl j t hj hbl
      have := ((hvf.lies j t k2).lt k3).1
      omega
  obtain ⟨g2, i1, i2, i3, i4, i5, i6⟩ := back_sound (args.toList.map (val e)) outs (args.toList.map a.eval) B2 key _ _ σ1 k1 (frz0 σ F) hadv (fun i h3 h4 => by show ¬ gf.D i; rw [hDf]; exact hD i h3 h4) (Nat.le_refl _) (by
    omega) (by simp) hreps hlent hnd.2.1 (fun b hb' => hall b (List.mem_append_right _ hb')) hb
  obtain ⟨g3, j1, j2⟩ := adopt_sound i1 i4 i5 hroom (by rw [i3]; exact hres) hnd.1 (fun b hb' => ⟨(hall b (List.mem_append_left _ hb')).1, fun j t hj hbl => by
    rcases i6 j t b hj hbl with h7 | ⟨j0, t0, h7, h8⟩
    · exact hnd.2.2 b hb' b h7 rfl
    · exact (hall b (List.mem_append_left _ hb')).2 j0 t0 h7 h8⟩) had
  exact hN u w' g3 (hadf.trans j1) j2

/-- What a call of f gives that makes one object and hands it over. -/
def NewOk (P : Program) (f : FuncId) (args : List AV) (x : AV) : Prop :=
  (∃ fn, P.funcs[f]? = some fn ∧ (fn.name == "runtime.NumGoroutine") = false ∧ fn.body.isNone = false) ∧
  ∃ T n cs, x = .o T 0 n cs ∧ ∀ (w : World) (V : Nat → Prop) (us : List Value), (∀ b, V b → b < w.heap.size) → us.length = args.length → (∀ (j : Nat) (y : AV) (u : Value), args[j]? = some y → us[j]? = some u → Rep w (gV V) y u) →
    Calls P f us.toArray w fun en w' => ∃ V' b vs, en = .returned (.pointer (some ⟨b, 0, none⟩)) ∧ Below w.heap.size w w' ∧ (∀ b, V b → V' b) ∧ (∀ b, V' b → (V b ∨ w.heap.size ≤ b) ∧ b < w'.heap.size) ∧
      w.heap.size ≤ b ∧ w'.heap[b]? = some (.cells vs T (0, 0)) ∧ vs.size = cs.length ∧ Cells w' (gV V') cs vs ∧ ¬ V' b

theorem call_new (hv : Inv w g σ) (henv : Env w g e a) {key : Nat} (hD : ∀ i, key ≤ i → i < key + 4 → ¬ g.D i) {o : Oper} {f : FuncId} {args : Array Operand} {tys : Array TypeId}
    (hop : o.op = .call { callee := .value (.func f), args := args, argTypes := tys }) (hcl : closedL (args.toList.map (val e)) = true) {T n : Nat} {cs : List AV} (hC : NewOk P f (args.toList.map (val e)) (.o T 0 n cs)) (hcs : closedL cs = true)
    {next : Act → World → Prop} {Q : Exit → Act → World → Prop} (hN : ∀ u w1 g1, Adv w g σ key w1 g1 (upd σ key (some (.ob T cs))) → Rep w1 g1 (.r key 0) u → next (a.put o.dst u) w1) : o.wp P a w next Q := by
  obtain ⟨⟨fn, hf, hname, hb⟩, T', n', cs', hx, hcall⟩ := hC
  cases hx
  have h2 : ¬ fn.body = none := by cases hx : fn.body <;> simp_all
  have hrun : (execOp a.eval o).run P w = .ok (.enter f (args.map a.eval)) w := by
    have h1 : ¬ fn.name = "runtime.NumGoroutine" := by simpa using hname
    unfold execOp
    simp [hop, resolve, Deferred.ofValue, invoke, callFunc, hf, h1, h2, Act.eval]
  unfold Oper.wp
  rw [hrun]
  show Calls P f (args.map a.eval) w _
  have harr : args.map a.eval = (args.toList.map a.eval).toArray := by rw [← Array.toList_map, Array.toArray_toList]
  rw [harr]
  refine (hcall w g.V _ hv.vlt (by simp) fun j y u hj hu => ?_).mono ?_
  · have hy := closedL_mem _ hcl j y hj
    simp only [List.getElem?_map] at hj hu
    obtain ⟨q, hq, rfl⟩ := Option.map_eq_some_iff.1 hj
    rw [hq] at hu
    simp only [Option.map_some, Option.some.injEq] at hu
    subst hu
    exact (henv.val q).closed_to hy fun _ h => h
  rintro en w' ⟨V', b, vs, rfl, hB, hV1, hV2, hnew, hh, hsz, hcells, hnV⟩
  have hadv := adv_below hv key hB V' hV1 hV2
  have hk : ¬ (⟨V', g.ρ, g.D⟩ : G).D key := hD key (Nat.le_refl _) (by omega)
  have h3 := hadv.adopt hk ⟨Nat.le_refl _, by omega⟩ ⟨some ⟨b, 0, none⟩, 0⟩ (.ob T cs) ?_ ?_
  · exact hN _ w' _ h3 (.r key 0 b (.inr rfl) (by simp [G.add]))
  · refine ⟨b, vs, by simp [G.add], hh, hsz, fun j c hj => ?_, hnV⟩
    obtain ⟨u, h4, h5⟩ := hcells j c hj
    exact ⟨u, h4, h5.closed_to (closedL_mem _ hcs j c hj) fun _ h => h⟩
  · intro b' hb'
    simp only [blockOf, G.add, if_true, Option.map_some, Option.some.injEq] at hb'
    subst hb'
    refine ⟨.inl hnew, fun j t hj hbl => ?_⟩
    have hbl' : blockOf g j t = some b := by cases t <;> exact hbl
    have := ((hv.lies j t hj).lt hbl').1
    omega
/-- What a call of f gives, as pf says. -/
def FOk (P : Program) (pf : FuncId → Nat) (f : FuncId) (xs : List AV) (x : AV) : Prop := if pf f = 2 ∨ pf f = 4 then LentOk P f xs x else if pf f = 3 then NewOk P f xs x else PureOk P f xs x
end
end Go.Proofs.YtegbkihgnofkfaaGreatDoor.Ev

/-
The engine: maps from texts to numbers: looking up.
-/
namespace Go.Proofs.YtegbkihgnofkfaaGreatDoor.Ev
section
set_option linter.unusedVariables false
set_option linter.unusedSimpArgs false
open Go
set_option linter.unusedVariables false
set_option linter.unusedSimpArgs false
variable {P : Program} {I : Tab} {w : World} {g : G} {σ : Sto} {e : Nat → AV} {a : Act}
theorem MapFit.keys {f : List UInt8 → Option Int} {es : Array MapEntry} {clock : Nat} (h : MapFit f es clock) : ∀ x ∈ es.toList, MapKept.IsKey .string x.key := fun x hx => by
  obtain ⟨k, n, hk, _⟩ := h.kind x hx
  rw [hk]
  trivial
/-- What a search for a key finds. -/
theorem MapFit.find {f : List UInt8 → Option Int} {es : Array MapEntry} {clock : Nat} (h : MapFit f es clock) (s : ByteArray) :
    (Instr.findNow .string (.string s) es.toList 0 = some none ∧ f s.data.toList = none ∧ ∀ x ∈ es.toList, x.key ≠ .string s) ∨
    ∃ j x n, Instr.findNow .string (.string s) es.toList 0 = some (some (j, .int .i64 n)) ∧ f s.data.toList = some n ∧ es[j]? = some x ∧ x.key = .string s ∧ x.val = .int .i64 n := by
  rcases MapKept.findNow_spec (d := .string) (k := .string s) trivial es.toList 0 h.keys with ⟨h1, h2⟩ | ⟨j, x, h1, h2, h3⟩
  · refine .inl ⟨h1, ?_, h2⟩
    cases hfs : f s.data.toList with
    | none => rfl
    | some n =>
      obtain ⟨x, hx, e1, _⟩ := (h.look s n).1 hfs
      exact absurd e1 (h2 x hx)
  · have hx : x ∈ es.toList := List.mem_of_getElem? h2
    obtain ⟨k, n, _, hv⟩ := h.kind x hx
    rw [Nat.zero_add, hv] at h1
    exact .inr ⟨j, x, n, h1, (h.look s n).2 ⟨x, hx, h3, hv⟩, by simpa using h2, h3, hv⟩
theorem lookup_sound (hI : I.Ok P) {t : TypeId} {sz by_ : Nat} {zz : List Value} (ht : I t = some ⟨.mp, sz, by_, zz⟩) {f : List UInt8 → Option Int} {u : Value} (hr : Rep w g (.m f) u) (s : ByteArray) (ok : Bool) :
    (Instr.lookup t u (.string s) ok).run P w = .ok (if ok = true then .tuple #[.int .i64 ((f s.data.toList).getD 0), .bool (f s.data.toList).isSome] else .int .i64 ((f s.data.toList).getD 0)) w := by
  have hk := (hI t _ ht).k
  simp only [TK.tie] at hk
  obtain ⟨K, E, j, h1, h2, h3, h4⟩ := hk
  cases hr
  rename_i b clock es hV hb hf
  have hz : (zeroValue E).run P w = .ok (.int .i64 0) w := by simp [zeroValue, typeInfo, h3, h4]
  have hck := MapKept.run_checkKey (P := P) (w := w) (kt := K) (d := .string) (k := .string s) h2 trivial
  have hg := MapKept.run_getObj_map (P := P) hb
  rcases hf.find s with ⟨f1, f2, _⟩ | ⟨j, x, n, f1, f2, _⟩
  · have hfi := MapKept.run_findKey (P := P) (w := w) h2 f1
    rw [f2]
    cases ok <;> simp [Instr.lookup, run_underlying h1, hg, hck, hfi, hz, Result.andThen]
  · have hfi := MapKept.run_findKey (P := P) (w := w) h2 f1
    rw [f2]
    cases ok <;> simp [Instr.lookup, run_underlying h1, hg, hck, hfi, hz, Result.andThen]
end
end Go.Proofs.YtegbkihgnofkfaaGreatDoor.Ev

/-
The engine, part 15: one operation, all kinds.
-/
namespace Go.Proofs.YtegbkihgnofkfaaGreatDoor.Ev
section
set_option linter.unusedVariables false
set_option linter.unusedSimpArgs false
open Go Go.RowKit
set_option linter.unusedVariables false
set_option linter.unusedSimpArgs false
variable {P : Program} {I : Tab} {w : World} {g : G} {σ : Sto} {e : Nat → AV} {a : Act}

theorem nilCheck_v {x : AV} (hx : (∃ cs, x = .p cs) ∨ ∃ id o, x = .r id o) {u : Value} (h : Rep w g x u) : ∃ ad, u = .pointer (some ad) := by
  rcases hx with ⟨cs, rfl⟩ | ⟨id, o, rfl⟩ <;> cases h <;> exact ⟨_, rfl⟩

theorem cellsAt_look {pf : FuncId → Nat} {σ : Sto} {x : AV} {cs : List AV} (h : cellsAt (lookAt pf σ) x = some cs) : cellsAt σ x = some cs := by
  unfold lookAt at h
  split at h
  · cases x <;> simp_all [cellsAt]
  split at h
  · cases x
    case r id o =>
      simp only [cellsAt] at h ⊢
      by_cases hl : id < pf oMask
      · simpa [hl] using h
      · simp [hl] at h
    all_goals simp_all [cellsAt]
  split at h
  · cases x
    case r id o =>
      simp only [cellsAt] at h ⊢
      by_cases hl : 12 ≤ id ∧ id < pf oMask
      · simpa [hl] using h
      · simp [hl] at h
    all_goals simp_all [cellsAt]
  · exact h

set_option maxHeartbeats 8000000 in
theorem op_sound (hI : I.Ok P) {C : Sem1} {pf : FuncId → Nat} (hC : ∀ f xs x, C f xs = some x → FOk P pf f xs x) (hv : Inv w g σ) (henv : Env w g e a) {key : Nat} (hD : ∀ i, key ≤ i → i < key + 4 → ¬ g.D i) {o : Oper} {x : AV} {σ1 : Sto}
    (h : evOp I C pf e σ key o.op = some (x, σ1)) {next : Act → World → Prop} {Q : Exit → Act → World → Prop} (hN : ∀ u w1 g1, Adv w g σ key w1 g1 σ1 → Rep w1 g1 x u → next (a.put o.dst u) w1) : o.wp P a w next Q := by
  have hk : ¬ g.D key := hD key (Nat.le_refl _) (by omega)
  -- what only reads
  have same : ∀ {s : Sem Value} {u : Value}, execOp a.eval o = (do pure (Next.value (← s)) : Sem Next) → s.run P w = .ok u w → Rep w g x u → σ1 = σ → o.wp P a w next Q := by
    intro s u h1 h2 h3 h4
    subst h4
    exact wp_of_run (by rw [h1]; simp [h2]) (hN u w g (Adv.same hv key) h3)
  have gives : ∀ {s : Sem Value}, execOp a.eval o = (do pure (Next.value (← s)) : Sem Next) → Gives P s w g σ key x σ1 → o.wp P a w next Q := by
    rintro s h1 ⟨u, w1, g1, h2, h3, h4⟩
    exact wp_of_run (by rw [h1]; simp [h2]) (hN u w1 g1 h3 h4)
  have E : ∀ op', o.op = op' → evOp I C pf e σ key op' = some (x, σ1) := fun op' hh => hh ▸ h
  cases hop : o.op with
  | move y =>
    have h := E _ hop
    simp only [evOp, Option.some.injEq, Prod.mk.injEq] at h
    obtain ⟨rfl, rfl⟩ := h
    exact wp_of_run (by unfold execOp; simp [hop]) (hN _ w g (Adv.same hv key) (henv.val y))
  | assign y =>
    have h := E _ hop
    simp only [evOp, Option.some.injEq, Prod.mk.injEq] at h
    obtain ⟨rfl, rfl⟩ := h
    exact wp_of_run (by unfold execOp; simp [hop]) (hN _ w g (Adv.same hv key) (henv.val y))
  | pick c y z =>
    have h := E _ hop
    simp only [evOp] at h
    split at h
    · rename_i t ht
      simp only [Option.some.injEq, Prod.mk.injEq] at h
      obtain ⟨rfl, rfl⟩ := h
      have hc := henv.val c
      rw [ht] at hc
      have hcv := rep_v_inv hc
      cases t
      · exact wp_of_run (u := a.eval z) (by unfold execOp; simp [hop, hcv, asBool]) (hN _ w g (Adv.same hv key) (henv.val z))
      · exact wp_of_run (u := a.eval y) (by unfold execOp; simp [hop, hcv, asBool]) (hN _ w g (Adv.same hv key) (henv.val y))
    · cases h
  | binOp op T y z yT =>
    have h := E _ hop
    simp only [evOp] at h
    obtain ⟨i, hi, h⟩ := Option.bind_eq_some_iff.1 h
    obtain ⟨r, hr, h⟩ := Option.map_eq_some_iff.1 h
    simp only [Prod.mk.injEq] at h
    obtain ⟨rfl, rfl⟩ := h
    obtain ⟨u, h1, h2⟩ := bin_sound (P := P) hI hi op y z (henv.val y) (henv.val z) hr
    exact same (s := do eqGuard op T y z (a.eval y) (a.eval z); binOp op T (a.eval y) (a.eval z)) (by unfold execOp; rw [hop]) h1 h2 rfl
  | unOp op T y =>
    have h := E _ hop
    simp only [evOp] at h
    split at h
    · rename_i b hb
      simp only [Option.some.injEq, Prod.mk.injEq] at h
      obtain ⟨rfl, rfl⟩ := h
      have hr := henv.val y
      rw [hb] at hr
      have hyv := rep_v_inv hr
      exact same (s := Op.unary .not (a.eval y)) (u := .bool (!b)) (by unfold execOp; rw [hop]) (by rw [hyv]; simp [Op.unary, Sem.run_pure]) (.v _) rfl
    · rename_i k n hb
      simp only [Option.some.injEq, Prod.mk.injEq] at h
      obtain ⟨rfl, rfl⟩ := h
      have hr := henv.val y
      rw [hb] at hr
      have hyv := rep_v_inv hr
      exact same (s := Op.unary .neg (a.eval y)) (u := .int k (k.wrap (0 - n))) (by unfold execOp; rw [hop]) (by rw [hyv]; simp [Op.unary, Op.intArith, Sem.run_pure]) (.v _) rfl
    · cases h
  | convert s d y =>
    have h := E _ hop
    simp only [evOp] at h
    obtain ⟨si, hsi, h⟩ := Option.bind_eq_some_iff.1 h
    obtain ⟨di, hdi, h⟩ := Option.bind_eq_some_iff.1 h
    obtain ⟨r, hr, h⟩ := Option.map_eq_some_iff.1 h
    simp only [Prod.mk.injEq] at h
    obtain ⟨rfl, rfl⟩ := h
    obtain ⟨u, h1, h2⟩ := conv_sound (P := P) hI hsi hdi (henv.val y) hr
    exact same (s := convert s d (a.eval y)) (by unfold execOp; rw [hop]) h1 h2 rfl
  | extract y i =>
    have h := E _ hop
    simp only [evOp] at h
    split at h
    · rename_i xs hxs
      obtain ⟨r, hr, h⟩ := Option.map_eq_some_iff.1 h
      simp only [Prod.mk.injEq] at h
      obtain ⟨rfl, rfl⟩ := h
      have hrep := henv.val y
      rw [hxs] at hrep
      generalize hq : a.eval y = q at hrep
      cases hrep with
      | t _ vs us hs h1 h2 => exact same (s := Instr.extract (a.eval y) i) (u := us i) (by unfold execOp; rw [hop]) (by rw [hq]; simp [Instr.extract, h1 i _ hr, Sem.run_pure]) (h2 i _ hr) rfl
    · cases h
  | nilCheck y =>
    have h := E _ hop
    have hrep := henv.val y
    have hx : ((∃ cs, x = .p cs) ∨ ∃ id o, x = .r id o) ∧ x = val e y ∧ σ1 = σ := by
      simp only [evOp] at h
      split at h
      · rename_i cs hcs
        simp only [Option.some.injEq, Prod.mk.injEq] at h
        obtain ⟨rfl, rfl⟩ := h
        exact ⟨.inl ⟨cs, rfl⟩, hcs.symm, rfl⟩
      · rename_i id o' hcs
        simp only [Option.some.injEq, Prod.mk.injEq] at h
        obtain ⟨rfl, rfl⟩ := h
        exact ⟨.inr ⟨id, o', rfl⟩, hcs.symm, rfl⟩
      · cases h
    obtain ⟨hx1, rfl, rfl⟩ := hx
    obtain ⟨ad, had⟩ := nilCheck_v hx1 hrep
    exact wp_of_run (u := a.eval y) (by unfold execOp; simp [hop, had]) (hN _ w g (Adv.same hv key) hrep)
  | fieldAddr s y f =>
    have h := E _ hop
    simp only [evOp] at h
    split at h
    · rename_i fs sz by_ zz hs
      obtain ⟨fd, hfd, h⟩ := Option.bind_eq_some_iff.1 h
      obtain ⟨r, hr, h⟩ := Option.map_eq_some_iff.1 h
      simp only [Prod.mk.injEq] at h
      obtain ⟨rfl, rfl⟩ := h
      obtain ⟨u, h1, h2⟩ := fieldAddr_sound (P := P) hI hs hfd (henv.val y) hr
      exact same (s := Instr.fieldAt s (a.eval y) f) (by unfold execOp; rw [hop]) h1 h2 rfl
    · cases h
  | field s y f =>
    have h := E _ hop
    simp only [evOp] at h
    split at h
    · rename_i fs sz by_ zz hs
      obtain ⟨fd, hfd, h⟩ := Option.bind_eq_some_iff.1 h
      obtain ⟨fi, hfi, h⟩ := Option.bind_eq_some_iff.1 h
      split at h
      · rename_i cs hcs
        obtain ⟨r, hr, h⟩ := Option.map_eq_some_iff.1 h
        simp only [Prod.mk.injEq] at h
        obtain ⟨rfl, rfl⟩ := h
        have hrep := henv.val y
        rw [hcs] at hrep
        obtain ⟨u, h1, h2⟩ := field_sound (P := P) hI hs hfd hfi hrep hr
        exact same (s := Instr.field s (a.eval y) f) (by unfold execOp; rw [hop]) h1 h2 rfl
      · cases h
    · cases h
  | load t y =>
    have h := E _ hop
    simp only [evOp] at h
    obtain ⟨i, hi, h⟩ := Option.bind_eq_some_iff.1 h
    obtain ⟨cs, hcs, h⟩ := Option.bind_eq_some_iff.1 h
    obtain ⟨r, hr, h⟩ := Option.map_eq_some_iff.1 h
    simp only [Prod.mk.injEq] at h
    obtain ⟨rfl, rfl⟩ := h
    obtain ⟨ad, had, hat⟩ := cellsAt_sound hv (henv.val y) (cellsAt_look hcs)
    obtain ⟨u, h1, h2⟩ := load_sound (P := P) hI hi hat hr
    exact same (s := Instr.loadAt t (a.eval y)) (by unfold execOp; rw [hop]) (by rw [had]; simp [Instr.loadAt, Instr.sureAddr, h1]) h2 rfl
  | store t y z =>
    have h := E _ hop
    simp only [evOp] at h
    split at h
    case isFalse => cases h
    simp only [putAt] at h
    obtain ⟨i, hi, h⟩ := Option.bind_eq_some_iff.1 h
    obtain ⟨ls, hls, h⟩ := Option.bind_eq_some_iff.1 h
    split at h
    · rename_i hc
      obtain ⟨hlen, hpos, hok⟩ := hc
      have hne : ls ≠ [] := by rintro rfl; simp at hlen; omega
      split at h
      · rename_i id o' hy
        have hrep := henv.val y
        rw [hy] at hrep
        have fin : ∀ {s s1 : Slot}, σ id = some s → ((∃ T cs cs1, s = .ob T cs ∧ s1 = .ob T cs1 ∧ setRange cs o' ls = some cs1) ∨ (∃ E sz n cs cs1, s = .row E sz n cs ∧ s1 = .row E sz n cs1 ∧ setRange cs o' ls = some cs1)) →
            x = .v undef → σ1 = upd σ id (some s1) → o.wp P a w next Q := by
          intro s s1 hs h1 hx hσ
          subst hx hσ
          obtain ⟨w1, hrun, hadv⟩ := store_sound (P := P) hI hv key hi (henv.val z) hls hlen hok hrep hs h1 hne
          exact wp_of_skip (w1 := w1) (by unfold execOp; rw [hop]; simp [hrun, Sem.run_pure]) (hN undef w1 g hadv (.v _))
        split at h
        · rename_i T cs hs
          obtain ⟨cs1, h1, h⟩ := Option.map_eq_some_iff.1 h
          simp only [Prod.mk.injEq] at h
          exact fin hs (.inl ⟨T, cs, cs1, rfl, rfl, h1⟩) h.1.symm h.2.symm
        · rename_i E' sz n cs hs
          obtain ⟨cs1, h1, h⟩ := Option.map_eq_some_iff.1 h
          simp only [Prod.mk.injEq] at h
          exact fin hs (.inr ⟨E', sz, n, cs, cs1, rfl, rfl, h1⟩) h.1.symm h.2.symm
        · cases h
      · cases h
    · cases h
  | indexAddr t y ix =>
    have h := E _ hop
    simp only [evOp] at h
    split at h
    · rename_i E' sz by_ zz k i ht hix
      obtain ⟨ei, hE, h⟩ := Option.bind_eq_some_iff.1 h
      have hir := henv.val ix
      rw [hix] at hir
      have hiv := rep_v_inv hir
      have hrep := henv.val y
      split at h
      · rename_i ex n cs hy
        rw [hy] at hrep
        split at h
        · rename_i hc
          simp only [Option.some.injEq, Prod.mk.injEq] at h
          obtain ⟨rfl, rfl⟩ := h
          obtain ⟨u, h1, h2⟩ := indexAddr_s_sound (P := P) (k := k) hI ht hE hc.1 hc.2.1 hc.2.2.1 hc.2.2.2 hrep
          exact same (s := Instr.indexAt t (a.eval y) (a.eval ix)) (by unfold execOp; rw [hop]) (by rw [hiv]; exact h1) h2 rfl
        · cases h
      · rename_i id lo n hy
        rw [hy] at hrep
        split at h
        · rename_i hc
          simp only [Option.some.injEq, Prod.mk.injEq] at h
          obtain ⟨rfl, rfl⟩ := h
          obtain ⟨u, h1, h2⟩ := indexAddr_w_sound (P := P) (k := k) hI ht hE hc.1 hc.2 hrep
          exact same (s := Instr.indexAt t (a.eval y) (a.eval ix)) (by unfold execOp; rw [hop]) (by rw [hiv]; exact h1) h2 rfl
        · cases h
      · cases h
    · rename_i len E' sz by_ zz k i ht hix
      obtain ⟨ei, hE, h⟩ := Option.bind_eq_some_iff.1 h
      have hir := henv.val ix
      rw [hix] at hir
      have hiv := rep_v_inv hir
      split at h
      · rename_i hc
        obtain ⟨r, hr, h⟩ := Option.map_eq_some_iff.1 h
        simp only [Prod.mk.injEq] at h
        obtain ⟨rfl, rfl⟩ := h
        obtain ⟨u, h1, h2⟩ := indexAddr_arr_sound (P := P) (k := k) hI ht hE hc.1 hc.2 hr (henv.val y)
        exact same (s := Instr.indexAt t (a.eval y) (a.eval ix)) (by unfold execOp; rw [hop]) (by rw [hiv]; exact h1) h2 rfl
      · cases h
    · cases h
  | index t y ix =>
    have h := E _ hop
    simp only [evOp] at h
    split at h
    · rename_i sz by_ zz k i ht hix
      have hir := henv.val ix
      rw [hix] at hir
      have hiv := rep_v_inv hir
      split at h
      · rename_i s hy
        have hrep := henv.val y
        rw [hy] at hrep
        have hyv := rep_v_inv hrep
        split at h
        · rename_i hc
          simp only [Option.some.injEq, Prod.mk.injEq] at h
          obtain ⟨rfl, rfl⟩ := h
          exact same (s := Instr.index t (a.eval y) (a.eval ix)) (by unfold execOp; rw [hop]) (by rw [hiv, hyv]; exact index_str_sound hI ht s k i hc) (.v _) rfl
        · cases h
      · cases h
    · rename_i len E' sz by_ zz k i ht hix
      obtain ⟨ei, hE, h⟩ := Option.bind_eq_some_iff.1 h
      have hir := henv.val ix
      rw [hix] at hir
      have hiv := rep_v_inv hir
      split at h
      · rename_i cs hy
        have hrep := henv.val y
        rw [hy] at hrep
        split at h
        · rename_i hc
          obtain ⟨r, hr, h⟩ := Option.map_eq_some_iff.1 h
          simp only [Prod.mk.injEq] at h
          obtain ⟨rfl, rfl⟩ := h
          obtain ⟨u, h1, h2⟩ := index_arr_sound (P := P) (k := k) hI ht hE hc.1 hc.2 hrep hr
          exact same (s := Instr.index t (a.eval y) (a.eval ix)) (by unfold execOp; rw [hop]) (by rw [hiv]; exact h1) h2 rfl
        · cases h
      · cases h
    · cases h
  | lookup t y kx ok =>
    have h := E _ hop
    simp only [evOp] at h
    split at h
    · rename_i sz by_ zz f s ht hy hix
      have hir := henv.val kx
      rw [hix] at hir
      have hiv := rep_v_inv hir
      have hrep := henv.val y
      rw [hy] at hrep
      simp only [Option.some.injEq, Prod.mk.injEq] at h
      obtain ⟨rfl, rfl⟩ := h
      have hl := lookup_sound hI ht hrep s ok
      refine same (s := Instr.lookup t (a.eval y) (a.eval kx) ok) (by unfold execOp; rw [hop]) (by rw [hiv]; exact hl) ?_ rfl
      cases ok
      · exact .v _
      · refine .t _ _ (fun j => (#[Value.int .i64 ((f s.data.toList).getD 0), .bool (f s.data.toList).isSome]).getD j undef) rfl (fun j c hj => ?_) (fun j c hj => ?_)
        · match j, hj with
          | 0, _ => rfl
          | 1, _ => rfl
          | j + 2, hj => simp at hj
        · match j, hj with
          | 0, hj => cases hj; exact .v _
          | 1, hj => cases hj; exact .v _
          | j + 2, hj => simp at hj
    · cases h
  | makeSlice t y z =>
    have h := E _ hop
    simp only [evOp] at h
    have hry := henv.val y
    have hrz := henv.val z
    split at h
    · rename_i E' sz by_ zz k1 n k2 q ht hy hz
      rw [hy] at hry
      rw [hz] at hrz
      obtain ⟨ei, hE, h⟩ := Option.bind_eq_some_iff.1 h
      split at h
      · rename_i hc
        obtain ⟨c1, c2, c3, c4, c5⟩ := hc
        simp only [Option.some.injEq, Prod.mk.injEq] at h
        obtain ⟨rfl, rfl⟩ := h
        exact gives (s := Instr.makeSlice t (a.eval y) (a.eval z)) (by unfold execOp; rw [hop]) (by rw [rep_v_inv hry, rep_v_inv hrz]; exact make_sound hI hv hk ht hE c3 _ _ n q c1 c2 c4 c5)
      · cases h
    · cases h
  | slice t y lo hi mx =>
    have h := E _ hop
    cases mx with
    | some q =>
      simp only [evOp] at h
      obtain ⟨r, hr, h⟩ := Option.map_eq_some_iff.1 h
      simp only [Prod.mk.injEq] at h
      obtain ⟨rfl, rfl⟩ := h
      obtain ⟨u, h1, h2⟩ := cut3_sound (P := P) hI (henv.val y) (opt_rep henv lo).1 (opt_rep henv lo).2 (opt_rep henv hi).1 (opt_rep henv hi).2 (henv.val q) hr
      exact same (s := Instr.sliceAt t (a.eval y) (lo.map a.eval) (hi.map a.eval) (some (a.eval q))) (by unfold execOp; rw [hop]; rfl) h1 h2 rfl
    | none =>
      simp only [evOp] at h
      have hrep := henv.val y
      split at h
      · rename_i sz by_ zz ht
        split at h
        · rename_i s hy
          rw [hy] at hrep
          have hyv := rep_v_inv hrep
          obtain ⟨r, hr, h⟩ := Option.map_eq_some_iff.1 h
          simp only [Prod.mk.injEq] at h
          obtain ⟨rfl, rfl⟩ := h
          obtain ⟨u, h1, h2⟩ := cut_str_sound (P := P) hI henv ht s lo hi hr
          exact same (s := Instr.sliceAt t (a.eval y) (lo.map a.eval) (hi.map a.eval) none) (by unfold execOp; rw [hop]; rfl) (by rw [hyv]; exact h1) h2 rfl
        · cases h
      · rename_i E' sz by_ zz ht
        obtain ⟨ei, hE, h⟩ := Option.bind_eq_some_iff.1 h
        split at h
        · rename_i ex n cs hy
          rw [hy] at hrep
          split at h
          · rename_i hl
            obtain ⟨r, hr, h⟩ := Option.map_eq_some_iff.1 h
            simp only [Prod.mk.injEq] at h
            obtain ⟨rfl, rfl⟩ := h
            obtain ⟨u, h1, h2⟩ := cut_s_sound (P := P) hI henv ht hE hl hrep lo hi hr
            exact same (s := Instr.sliceAt t (a.eval y) (lo.map a.eval) (hi.map a.eval) none) (by unfold execOp; rw [hop]; rfl) h1 h2 rfl
          · cases h
        · rename_i id o' n hy
          rw [hy] at hrep
          split at h
          · rename_i hsz
            obtain ⟨r, hr, h⟩ := Option.map_eq_some_iff.1 h
            simp only [Prod.mk.injEq] at h
            obtain ⟨rfl, rfl⟩ := h
            obtain ⟨u, h1, h2⟩ := cut_w_sound (P := P) hI henv ht hE hsz hrep lo hi hr
            exact same (s := Instr.sliceAt t (a.eval y) (lo.map a.eval) (hi.map a.eval) none) (by unfold execOp; rw [hop]; rfl) h1 h2 rfl
          · cases h
        · cases h
      · cases h
  | build t ps =>
    have h := E _ hop
    simp only [evOp] at h
    split at h
    · rename_i fs sz by_ zz ht
      obtain ⟨r, hr, h⟩ := Option.map_eq_some_iff.1 h
      simp only [Prod.mk.injEq] at h
      obtain ⟨rfl, rfl⟩ := h
      obtain ⟨u, h1, h2⟩ := build_sound (P := P) hI henv ht ps hr
      exact same (s := Instr.build t (ps.map fun q => (q.1, a.eval q.2))) (by unfold execOp; rw [hop]) h1 h2 rfl
    · rename_i n E' sz by_ zz ht
      obtain ⟨ei, hE, h⟩ := Option.bind_eq_some_iff.1 h
      obtain ⟨r, hr, h⟩ := Option.map_eq_some_iff.1 h
      simp only [Prod.mk.injEq] at h
      obtain ⟨rfl, rfl⟩ := h
      obtain ⟨u, h1, h2⟩ := build_arr_sound (P := P) hI henv ht hE ps hr
      exact same (s := Instr.build t (ps.map fun q => (q.1, a.eval q.2))) (by unfold execOp; rw [hop]) h1 h2 rfl
    · cases h
  | buildSlice t len ps =>
    have h := E _ hop
    simp only [evOp] at h
    split at h
    · rename_i E' sz by_ zz ht
      obtain ⟨ei, hE, h⟩ := Option.bind_eq_some_iff.1 h
      split at h
      · rename_i hle
        obtain ⟨r, hr, h⟩ := Option.bind_eq_some_iff.1 h
        simp only [Option.some.injEq, Prod.mk.injEq] at h
        obtain ⟨rfl, rfl⟩ := h
        exact gives (s := Instr.buildSlice t len (ps.map fun q => (q.1, a.eval q.2))) (by unfold execOp; rw [hop]) (buildSlice_sound hI hv henv key ht hE len hle ps hr)
      · cases h
    · cases h
  | box t y =>
    have h := E _ hop
    simp only [evOp] at h
    obtain ⟨i, hi, h⟩ := Option.bind_eq_some_iff.1 h
    obtain ⟨ls, hls, h⟩ := Option.bind_eq_some_iff.1 h
    split at h
    · split at h
      · simp only [Option.some.injEq, Prod.mk.injEq] at h
        obtain ⟨rfl, rfl⟩ := h
        exact gives (s := Instr.box t (a.eval y)) (by unfold execOp; rw [hop]) (box_frozen hv key t (henv.val y) hls)
      · simp only [Option.some.injEq, Prod.mk.injEq] at h
        obtain ⟨rfl, rfl⟩ := h
        exact gives (s := Instr.box t (a.eval y)) (by unfold execOp; rw [hop]) (box_sound hv hk t (henv.val y) hls)
    · cases h
  | alloc t =>
    have h := E _ hop
    simp only [evOp] at h
    obtain ⟨i, hi, h⟩ := Option.map_eq_some_iff.1 h
    simp only [Prod.mk.injEq] at h
    obtain ⟨rfl, rfl⟩ := h
    exact gives (s := Instr.alloc t true (.tuple #[])) (by unfold execOp; rw [hop]) (alloc_sound hI hv hk hi)
  | call c =>
    have h := E _ hop
    simp only [evOp] at h
    obtain ⟨callee, args, tys⟩ := c
    simp only at h
    split at h
    · rename_i b
      have hlen : (args.toList.map a.eval).length = (args.toList.map (val e)).length := by simp only [List.length_map]
      obtain ⟨u, w1, g1, h1, h2, h3⟩ := builtin_sound (P := P) hI hv hk b tys o.type (args.map fun | .const _ => true | _ => false) hlen (fun j x u hj hu => by
        simp only [List.getElem?_map] at hj hu
        obtain ⟨q, hq, rfl⟩ := Option.map_eq_some_iff.1 hj
        rw [hq] at hu
        simp only [Option.map_some, Option.some.injEq] at hu
        subst hu
        exact henv.val q) h
      have harr : (args.toList.map a.eval).toArray = args.map a.eval := by rw [← Array.toList_map, Array.toArray_toList]
      rw [harr] at h1
      exact wp_of_run (by unfold execOp; rw [hop]; simp only [resolve, invoke, pure_bind]; exact h1) (hN u w1 g1 h2 h3)
    · rename_i f
      unfold callOp at h
      split at h
      · rename_i hp1
        split at h
        · rename_i hcl
          obtain ⟨y, hy, h⟩ := Option.bind_eq_some_iff.1 h
          split at h
          · rename_i hcy
            simp only [Option.some.injEq, Prod.mk.injEq] at h
            obtain ⟨rfl, rfl⟩ := h
            have hk := hC f _ y hy
            unfold FOk at hk
            rw [if_neg (by rw [hp1]; decide), if_neg (by rw [hp1]; decide)] at hk
            exact call_pure hv henv hop hcl hk hcy hN
          · cases h
        · cases h
      · split at h
        · rename_i hp1 hp23
          split at h
          · rename_i hp3
            split at h
            · rename_i hcl
              obtain ⟨r, hy, h⟩ := Option.bind_eq_some_iff.1 h
              split at h
              · rename_i T n cs
                split at h
                · rename_i hcs
                  simp only [Option.some.injEq, Prod.mk.injEq] at h
                  obtain ⟨rfl, rfl⟩ := h
                  have hk := hC f _ _ hy
                  unfold FOk at hk
                  rw [if_neg (by rw [hp3]; decide), if_pos hp3] at hk
                  exact call_new hv henv hD hop hcl hk hcs hN
                · cases h
              · cases h
            · cases h
          rename_i hp3
          have hp2 : pf f = 2 := hp23.resolve_right hp3
          obtain ⟨⟨ps, L⟩, hl, h⟩ := Option.bind_eq_some_iff.1 h
          simp only at h
          split at h
          · rename_i hL
            obtain ⟨r, hy, h⟩ := Option.bind_eq_some_iff.1 h
            split at h
            · rename_i x' outs
              obtain ⟨⟨σ1', k1⟩, hb, h⟩ := Option.bind_eq_some_iff.1 h
              simp only at h
              split at h
              · rename_i hroom
                have hk := hC f _ _ hy
                unfold FOk at hk
                rw [if_pos (.inl hp2)] at hk
                exact call_lent hv henv hD hop hl hL hk hb hroom h hN
              · cases h
            · cases h
          · cases h
        rename_i hp1 hp23
        have hp2 : ¬ pf f = 2 := fun h => hp23 (.inl h)
        have hp3 : ¬ pf f = 3 := fun h => hp23 (.inr h)
        split at h
        · rename_i hp4
          obtain ⟨r0, h, hc⟩ := Option.bind_eq_some_iff.1 h
          split at hc
          case isFalse => cases hc
          obtain rfl := Option.some.inj hc
          unfold callL at h
          obtain ⟨⟨ps, L⟩, hl, h⟩ := Option.bind_eq_some_iff.1 h
          simp only at h
          split at h
          · rename_i hL
            obtain ⟨r, hy, h⟩ := Option.bind_eq_some_iff.1 h
            split at h
            · rename_i x' outs
              obtain ⟨⟨σ1', k1⟩, hb, h⟩ := Option.bind_eq_some_iff.1 h
              simp only at h
              split at h
              · rename_i hroom
                have hk := hC f _ _ hy
                unfold FOk at hk
                rw [if_pos (.inr hp4)] at hk
                exact call_lent hv henv hD hop hl hL hk hb hroom h hN
              · cases h
            · cases h
          · cases h
        rename_i hp4
        obtain ⟨⟨xs, lent⟩, hl, h⟩ := Option.bind_eq_some_iff.1 h
        obtain ⟨y, hy, h⟩ := Option.bind_eq_some_iff.1 h
        have hk := hC f xs y hy
        unfold FOk at hk
        rw [if_neg (fun h => h.elim hp2 hp4), if_neg hp3] at hk
        exact call_sound hv henv hD hop hl hk h hN
    · cases h
  | _ =>
    have h := E _ hop
    simp [evOp] at h
end
end Go.Proofs.YtegbkihgnofkfaaGreatDoor.Ev

/-
The engine, part 16: a region.
-/
namespace Go.Proofs.YtegbkihgnofkfaaGreatDoor.Ev
section
set_option linter.unusedVariables false
set_option linter.unusedSimpArgs false
open Go Go.RowKit
set_option linter.unusedVariables false
set_option linter.unusedSimpArgs false
variable {P : Program} {I : Tab} {C : Sem1} {pf : FuncId → Nat}

/-- The frame and the world are as the state s says; w0: the world at the beginning; V0: what never changed then; L0: the blocks that are lent. -/
structure Sim (w0 : World) (V0 L0 : Nat → Prop) (g0 : G) (N : Nat) (s : St) (a : Act) (w : World) (g : G) : Prop where
  os : w.os = w0.os
  tape : w.tape = w0.tape
  output : w.output = w0.output
  size : w0.heap.size ≤ w.heap.size
  keep : ∀ k, k < w0.heap.size → ¬ L0 k → w.heap[k]? = w0.heap[k]?
  V0V : ∀ b, V0 b → g.V b
  VV0 : ∀ b, g.V b → V0 b ∨ L0 b ∨ w0.heap.size ≤ b
  rho : ∀ i, g0.D i → g.D i ∧ g.ρ i = g0.ρ i
  env : Env w g s.e a
  tsz : a.tmps.size = N
  dfr : a.defers = []
  inv : Inv w g s.σ
  live : ∀ id t b, s.σ id = some t → blockOf g id t = some b → L0 b ∨ w0.heap.size ≤ b

section
variable {w0 : World} {V0 L0 : Nat → Prop} {g0 : G} {N : Nat} {s : St} {a : Act} {w : World} {g : G}
theorem Sim.adv (h : Sim w0 V0 L0 g0 N s a w g) {key : Nat} {w1 : World} {g1 : G} {σ1 : Sto} (k : Adv w g s.σ key w1 g1 σ1) {x : AV} {u : Value} (hr : Rep w1 g1 x u) (d : Option Nat) (hd : ∀ t, d = some t → t < N) :
    Sim w0 V0 L0 g0 N (({ s with σ := σ1 } : St).put d x) (a.put d u) w1 g1 := by
  have hlive : ∀ id t b, σ1 id = some t → blockOf g1 id t = some b → L0 b ∨ w0.heap.size ≤ b := by
    intro id t b h1 h2
    rcases k.live id t b h1 h2 with h3 | ⟨j, q, h3, h4⟩
    · exact .inr (Nat.le_trans h.size h3)
    · exact h.live j q b h3 h4
  have henv : Env w1 g1 (({ s with σ := σ1 } : St).put d x).e (a.put d u) := by
    intro t
    cases d with
    | none => exact (h.env t).onto k.onto
    | some d =>
      have hdN := hd d rfl
      by_cases e : t = d
      · subst e
        have : (a.put (some t) u).tmps.getD t undef = u := by
          have : t < a.tmps.size := by rw [h.tsz]; exact hdN
          simp [Act.put, Array.getD_eq_getD_getElem?, this]
        simp only [St.put, if_true]
        rw [this]
        exact hr
      · have : (a.put (some d) u).tmps.getD t undef = a.tmps.getD t undef := by
          simp [Act.put, Array.getD_eq_getD_getElem?, Array.getElem?_setIfInBounds_ne (Ne.symm e)]
        simp only [St.put, e, if_false]
        rw [this]
        exact (h.env t).onto k.onto
  have hσ : (({ s with σ := σ1 } : St).put d x).σ = σ1 := by cases d <;> rfl
  refine ⟨k.os.trans h.os, k.tape.trans h.tape, k.output.trans h.output, Nat.le_trans h.size k.size, fun b hb hn => ?_, fun b hb => k.onto.V b (h.V0V b hb), fun b hb => ?_, fun i hi => ⟨k.onto.D i (h.rho i hi).1, (k.onto.ρ i (h.rho i hi).1).trans (h.rho i hi).2⟩, henv, ?_, ?_, by rw [hσ]; exact k.inv, by rw [hσ]; exact hlive⟩
  · refine (k.keep b (Nat.lt_of_lt_of_le hb h.size) fun id t hi hbl => ?_).trans (h.keep b hb hn)
    rcases h.live id t b hi hbl with h3 | h3
    · exact hn h3
    · omega
  · rcases k.newV b hb with h3 | h3 | ⟨id, t, h3, h4⟩
    · exact h.VV0 b h3
    · exact .inr (.inr (Nat.le_trans h.size h3))
    · exact .inr (h.live id t b h3 h4)
  · rw [← h.tsz]
    cases d <;> simp [Act.put]
  · rw [← h.dfr]
    cases d <;> rfl

theorem Sim.draw (h : Sim w0 V0 L0 g0 N s a w g) (n : Nat) : Sim w0 V0 L0 g0 N s a { w with drawn := n } g := by
  have hon : Onto w g { w with drawn := n } g := ⟨fun _ h => h, fun _ _ => rfl, fun _ h => h, fun _ _ => rfl⟩
  exact ⟨h.os, h.tape, h.output, h.size, h.keep, h.V0V, h.VV0, h.rho, fun t => (h.env t).onto hon, h.tsz, h.dfr,
    ⟨h.inv.vlt, fun id t hi => (h.inv.lies id t hi).onto hon (h.inv.told id t hi) fun b hb => ⟨rfl, ((h.inv.lies id t hi).lt hb).2⟩, h.inv.told, h.inv.apart⟩, h.live⟩

theorem wanted_sound (henv : Env w g s.e a) {ops : Array Oper} {o : Oper} {b : Bool} (h : wantedE ops s.e o = some b) : Region.wanted o (yielded ops a.tmps) = b := by
  unfold wantedE at h
  unfold Region.wanted
  split at h
  · rename_i hg
    obtain rfl := Option.some.inj h
    simp [hg]
  · rename_i j want hg
    split at h
    · rename_i q hq
      obtain rfl := Option.some.inj h
      obtain ⟨d, hd, he⟩ := Option.map_eq_some_iff.1 hq
      have hr := henv d
      rw [he] at hr
      have hv := rep_v_inv hr
      have hget : a.tmps[d]? = some (.bool q) := by
        rw [Array.getD_eq_getD_getElem?] at hv
        cases ht : a.tmps[d]? with
        | none => rw [ht] at hv; simp [undef] at hv
        | some y => rw [ht] at hv; simp at hv; rw [hv]
      simp only [hg, yielded, hd, Option.bind_some, hget]
      cases q <;> cases want <;> rfl
    · rename_i vs hq
      obtain rfl := Option.some.inj h
      obtain ⟨d, hd, he⟩ := Option.map_eq_some_iff.1 hq
      have hr := henv d
      rw [he] at hr
      have hv := rep_v_inv hr
      have hget : a.tmps[d]? = none ∨ a.tmps[d]? = some (.tuple vs) := by
        rw [Array.getD_eq_getD_getElem?] at hv
        cases ht : a.tmps[d]? with
        | none => exact .inl rfl
        | some y => rw [ht] at hv; simp at hv; rw [hv]; exact .inr rfl
      have hy : yielded ops a.tmps j = none := by
        rcases hget with hget | hget <;> simp only [yielded, hd, Option.bind_some, hget]
      simp only [hg, hy]
      rfl
    · cases h
end

/-- Where a region's numbers may lie. -/
def Within (base n : Nat) (L : List Nat) (g : G) : Prop := ∀ i, g.D i → i < base ∨ ∃ j, j < n ∧ j ∉ L ∧ base + 4 * j ≤ i ∧ i < base + 4 * j + 4

theorem evL_sound (hI : I.Ok P) (hC : ∀ f xs x, C f xs = some x → FOk P pf f xs x) {w0 : World} {V0 L0 : Nat → Prop} {g0 : G} {N : Nat} {ops : Array Oper} (hdst : ∀ (i : Nat) (o : Oper), ops[i]? = some o → ∀ t, o.dst = some t → t < N) (base : Nat) {Q : Exit → Act → World → Prop} :
    ∀ (L : List Nat), L.Nodup → (∀ i ∈ L, i < ops.size) → ∀ (s s' : St) (a : Act) (w : World) (g : G), Sim w0 V0 L0 g0 N s a w g → Within base ops.size L g → evL I C pf ops base L s = some s' →
      (∀ a' w' g', Sim w0 V0 L0 g0 N s' a' w' g' → Within base ops.size [] g' → Q .normal a' w') → wpOps P ops Q L a w
  | [], _, _, s, s', a, w, g, hS, hD, he, hQ => by
    simp only [evL, Option.some.injEq] at he
    subst he
    exact hQ a w g hS hD
  | i :: L, hnd, hlt, s, s', a, w, g, hS, hD, he, hQ => by
    simp only [evL] at he
    obtain ⟨s1, h1, h2⟩ := Option.bind_eq_some_iff.1 he
    obtain ⟨hni, hndL⟩ := List.nodup_cons.1 hnd
    have hi := hlt i List.mem_cons_self
    have hget : ops[i]? = some ops[i] := by simp [hi]
    have hrest := fun s a w g hS hD h2 => evL_sound hI hC hdst base L hndL (fun j hj => hlt j (List.mem_cons_of_mem _ hj)) s s' a w g hS hD h2 hQ
    simp only [wpOps, hget]
    unfold ev1 at h1
    simp only [hget] at h1
    have hDL : Within base ops.size L g := fun k hk => by
      rcases hD k hk with h | ⟨j, h3, h4, h5⟩
      · exact .inl h
      · exact .inr ⟨j, h3, fun hm => h4 (List.mem_cons_of_mem _ hm), h5⟩
    split at h1
    · cases h1
    · rename_i hw
      obtain rfl := Option.some.inj h1
      rw [wanted_sound hS.env hw]
      simp only [Bool.false_eq_true, if_false]
      exact hrest _ _ _ _ (hS.adv (Adv.same hS.inv 0) (.v undef) _ (fun t ht => hdst i _ hget t ht)) hDL h2
    · rename_i hw
      obtain ⟨⟨x, σ1⟩, h3, rfl⟩ := Option.map_eq_some_iff.1 h1
      rw [wanted_sound hS.env hw]
      simp only [if_true]
      refine .inl (op_sound hI hC hS.inv hS.env (key := base + 4 * i) (fun k hk1 hk2 hDk => ?_) h3 fun u w1 g1 hadv hrep => ?_)
      · rcases hD k hDk with h | ⟨j, h4, h5, h6, h7⟩
        · omega
        · have : j = i := by omega
          subst this
          exact h5 List.mem_cons_self
      · refine hrest _ _ _ _ (hS.adv hadv hrep _ (fun t ht => hdst i _ hget t ht)) (fun k hk => ?_) h2
        rcases hadv.newD k hk with h | h
        · exact hDL k h
        · exact .inr ⟨i, hi, hni, h.1, h.2⟩
end
end Go.Proofs.YtegbkihgnofkfaaGreatDoor.Ev

/-
The engine, part 17: operations whose order does not matter.
-/
namespace Go.Proofs.YtegbkihgnofkfaaGreatDoor.Ev
section
set_option linter.unusedVariables false
set_option linter.unusedSimpArgs false
open Go Go.RowKit
set_option linter.unusedVariables false
set_option linter.unusedSimpArgs false
variable {P : Program} {I : Tab} {C : Sem1} {pf : FuncId → Nat}

/-- 0: looks at its operands alone; 1: looks at the store; 2: any other. -/
def opCls (pf : FuncId → Nat) : Op → Nat
  | .move _ | .assign _ | .pick .. | .binOp .. | .unOp .. | .convert .. | .extract .. | .nilCheck _ | .fieldAddr .. | .field .. | .indexAddr .. | .index .. | .lookup .. | .slice .. | .build .. | .buildSlice .. => 0
  | .load .. => if pf oStrict = 1 then 0 else 1
  | .box t _ => if pf (oBox t) = 1 then 0 else 2
  | .call c => match c.callee with
    | .builtin .len => 0
    | .builtin .max => 0
    | .builtin .min => 0
    | .value (.func f) => if f = oMask then 2 else if pf f = 1 then 0 else 2
    | _ => 2
  | _ => 2

theorem val_congr {e e' : Nat → AV} {x : Operand} (h : ∀ t, x = .tmp t → e t = e' t) : val e x = val e' x := by
  cases x <;> simp [val]
  exact h _ rfl

set_option maxHeartbeats 2000000 in
theorem evOp_congr {e e' : Nat → AV} {σ : Sto} {key : Nat} {op : Op} (h : ∀ t, .tmp t ∈ op.operands → e t = e' t) : evOp I C pf e σ key op = evOp I C pf e' σ key op := by
  have v : ∀ x ∈ op.operands, val e x = val e' x := fun x hx => val_congr fun t ht => h t (ht ▸ hx)
  cases op with
  | move x => simp only [evOp]; rw [v x (by simp [Op.operands])]
  | assign x => simp only [evOp]; rw [v x (by simp [Op.operands])]
  | pick c a b => simp only [evOp]; rw [v c (by simp [Op.operands]), v a (by simp [Op.operands]), v b (by simp [Op.operands])]
  | binOp op T x y yT => simp only [evOp]; rw [v x (by simp [Op.operands]), v y (by simp [Op.operands])]
  | unOp op T x => simp only [evOp]; rw [v x (by simp [Op.operands])]
  | convert s d x => simp only [evOp]; rw [v x (by simp [Op.operands])]
  | extract x i => simp only [evOp]; rw [v x (by simp [Op.operands])]
  | nilCheck x => simp only [evOp]; rw [v x (by simp [Op.operands])]
  | lookup t x k ok => simp only [evOp]; rw [v x (by simp [Op.operands]), v k (by simp [Op.operands])]
  | fieldAddr s x f => simp only [evOp]; rw [v x (by simp [Op.operands])]
  | field s x f => simp only [evOp]; rw [v x (by simp [Op.operands])]
  | load t x => simp only [evOp]; rw [v x (by simp [Op.operands])]
  | store t x y => simp only [evOp]; rw [v x (by simp [Op.operands]), v y (by simp [Op.operands])]
  | indexAddr t x ix => simp only [evOp]; rw [v x (by simp [Op.operands]), v ix (by simp [Op.operands])]
  | index t x ix => simp only [evOp]; rw [v x (by simp [Op.operands]), v ix (by simp [Op.operands])]
  | slice t x lo hi mx =>
    have e1 : lo.map (val e) = lo.map (val e') := by
      cases lo with
      | none => rfl
      | some q => simp [v q (by simp [Op.operands])]
    have e2 : hi.map (val e) = hi.map (val e') := by
      cases hi with
      | none => rfl
      | some q => simp [v q (by simp [Op.operands])]
    cases mx with
    | none => simp only [evOp]; rw [v x (by simp [Op.operands]), e1, e2]
    | some q => simp only [evOp]; rw [v x (by simp [Op.operands]), v q (by simp [Op.operands]), e1, e2]
  | makeSlice t x y => simp only [evOp]; rw [v x (by simp [Op.operands]), v y (by simp [Op.operands])]
  | build t ps =>
    have : ps.toList.map (fun q => (q.1, val e q.2)) = ps.toList.map (fun q => (q.1, val e' q.2)) := List.map_congr_left fun q hq => by
      rw [v q.2 (by simp [Op.operands]; exact ⟨q.1, by simpa using hq⟩)]
    simp only [evOp]
    rw [this]
  | buildSlice t n ps =>
    have : ps.toList.map (fun q => (q.1, val e q.2)) = ps.toList.map (fun q => (q.1, val e' q.2)) := List.map_congr_left fun q hq => by
      rw [v q.2 (by simp [Op.operands]; exact ⟨q.1, by simpa using hq⟩)]
    simp only [evOp]
    rw [this]
  | box t x => simp only [evOp]; rw [v x (by simp [Op.operands])]
  | call c =>
    have : c.args.toList.map (val e) = c.args.toList.map (val e') := List.map_congr_left fun q hq => v q (by simp [Op.operands, Call.operands]; exact .inr (by simpa using hq))
    simp only [evOp]
    rw [this]
  | _ => simp only [evOp]

theorem mapfst (r : Option AV) (σ τ : Sto) : r.map (·, σ) = ((r.map (·, τ)).map Prod.fst).map (·, σ) := by cases r <;> rfl
theorem bindfst {α : Type} (x : Option α) (f f' : α → Option (AV × Sto)) (σ : Sto) (h : ∀ a, f a = ((f' a).map Prod.fst).map (·, σ)) : x.bind f = ((x.bind f').map Prod.fst).map (·, σ) := by
  cases x with
  | none => rfl
  | some a => exact h a

set_option maxHeartbeats 8000000 in
theorem pure_op {e : Nat → AV} {op : Op} (h : opCls pf op = 0) (σ : Sto) (key : Nat) : evOp I C pf e σ key op = ((evOp I C pf e (fun _ => none) 0 op).map Prod.fst).map (·, σ) := by
  cases op <;> simp only [opCls, reduceCtorEq] at h
  case load t x =>
    split at h
    · rename_i hs
      simp only [evOp, lookAt, hs, if_true]
      cases I t with
      | none => rfl
      | some i =>
        simp only [Option.bind_some]
        cases cellsAt (fun _ => none) (val e x) with
        | none => rfl
        | some cs =>
          simp only [Option.bind_some]
          cases takeVal i cs <;> rfl
    · cases h
  case box t x =>
    split at h
    · rename_i hs
      simp only [evOp, hs, if_true]
      cases I t with
      | none => rfl
      | some i =>
        simp only [Option.bind_some]
        cases leaves (val e x) with
        | none => rfl
        | some cs =>
          simp only [Option.bind_some]
          split <;> rfl
    · cases h
  case call c =>
    obtain ⟨callee, args, tys⟩ := c
    simp only at h
    split at h
    · simp only [evOp, builtinOf, Option.bind, Option.map]
      repeat' split
      all_goals simp_all
    · simp only [evOp, builtinOf, Option.bind, Option.map]
      repeat' split
      all_goals simp_all
    · simp only [evOp, builtinOf, Option.bind, Option.map]
      repeat' split
      all_goals simp_all
    · split at h
      · cases h
      split at h
      · rename_i hpf
        simp only [evOp, callOp, hpf, if_true]
        split
        · generalize C _ (args.toList.map (val e)) = r
          cases r with
          | none => rfl
          | some x =>
            simp only [Option.bind_some]
            split <;> rfl
        · rfl
      · cases h
    · cases h
  case lookup t x k ok =>
    simp only [evOp]
    split <;> rfl
  case slice t x lo hi mx =>
    cases mx with
    | some q =>
      simp only [evOp]
      cases cut3 I t (val e x) (lo.map (val e)) (hi.map (val e)) (val e q) <;> rfl
    | none =>
      simp only [evOp]
      cases I t with
      | none => rfl
      | some i =>
        obtain ⟨k, sz, b, z⟩ := i
        cases k <;> try rfl
        case str =>
          generalize val e x = y
          cases y <;> try rfl
          rename_i q
          cases q <;> try rfl
          simp only []
          generalize cut _ _ _ _ = r
          cases r <;> rfl
        case sl E =>
          simp only []
          cases I E with
          | none => rfl
          | some ei =>
            simp only [Option.bind_some]
            generalize val e x = y
            cases y <;> try rfl
            · simp only []
              split
              · generalize cut _ _ _ _ = r
                cases r <;> rfl
              · rfl
            · simp only []
              split
              · generalize cut _ _ _ _ = r
                cases r <;> rfl
              · rfl
  case buildSlice t len ps =>
    simp only [evOp]
    cases I t with
    | none => rfl
    | some i =>
      obtain ⟨k, sz, b, z⟩ := i
      cases k <;> try rfl
      rename_i E
      simp only []
      cases I E with
      | none => rfl
      | some ei =>
        simp only [Option.bind_some]
        split
        · generalize fillP _ _ _ = r
          cases r <;> rfl
        · rfl
  case binOp op T x y yT => exact bindfst _ _ _ _ fun i => mapfst _ _ _
  case convert s d x => exact bindfst _ _ _ _ fun si => bindfst _ _ _ _ fun di => mapfst _ _ _
  case build t ps =>
    simp only [evOp]
    split
    · generalize fillP _ _ _ = r
      cases r <;> rfl
    · exact bindfst _ _ _ _ fun ei => by
        generalize fillP _ _ _ = r
        cases r <;> rfl
    · rfl
  case fieldAddr s x f =>
    simp only [evOp]
    cases I s with
    | none => rfl
    | some i =>
      obtain ⟨k, sz, b, z⟩ := i
      cases k <;> try rfl
      exact bindfst _ _ _ _ fun fd => mapfst _ _ _
  case field s x f =>
    simp only [evOp]
    cases I s with
    | none => rfl
    | some i =>
      obtain ⟨k, sz, b, z⟩ := i
      cases k <;> try rfl
      refine bindfst _ _ _ _ fun fd => bindfst _ _ _ _ fun fi => ?_
      generalize val e x = y
      cases y <;> try rfl
      exact mapfst _ _ _
  case indexAddr t x ix =>
    simp only [evOp]
    cases I t with
    | none => rfl
    | some i =>
      obtain ⟨k, sz, b, z⟩ := i
      generalize val e ix = q
      cases k <;> try rfl
      case sl E =>
        cases q <;> try rfl
        rename_i q
        cases q <;> try rfl
        refine bindfst _ _ _ _ fun ei => ?_
        generalize val e x = y
        cases y <;> try rfl
        · simp only []
          split <;> rfl
        · simp only []
          split <;> rfl
      case arr n E =>
        cases q <;> try rfl
        rename_i q
        cases q <;> try rfl
        refine bindfst _ _ _ _ fun ei => ?_
        split
        · exact mapfst _ _ _
        · rfl
  case index t x ix =>
    simp only [evOp]
    cases I t with
    | none => rfl
    | some i =>
      obtain ⟨k, sz, b, z⟩ := i
      generalize val e ix = q
      cases k <;> try rfl
      case str =>
        cases q <;> try rfl
        rename_i q
        cases q <;> try rfl
        generalize val e x = y
        cases y <;> try rfl
        rename_i q
        cases q <;> try rfl
        simp only []
        split <;> rfl
      case arr n E =>
        cases q <;> try rfl
        rename_i q
        cases q <;> try rfl
        refine bindfst _ _ _ _ fun ei => ?_
        generalize val e x = y
        cases y <;> try rfl
        simp only []
        split
        · exact mapfst _ _ _
        · rfl
  all_goals first
    | (exact absurd h (by decide))
    | (simp only [evOp, Option.bind, Option.map]
       repeat' split
       all_goals simp_all)

theorem read_op {e : Nat → AV} {op : Op} (h : opCls pf op = 1) (σ : Sto) (key : Nat) : evOp I C pf e σ key op = ((evOp I C pf e σ 0 op).map Prod.fst).map (·, σ) := by
  cases op <;> simp only [opCls, reduceCtorEq] at h
  case box t x =>
    split at h
    · cases h
    · cases h
  case load t x =>
    simp only [evOp]
    cases I t with
    | none => rfl
    | some i =>
      simp only [Option.bind_some]
      cases cellsAt (lookAt pf σ) (val e x) with
      | none => rfl
      | some cs =>
        simp only [Option.bind_some]
        cases takeVal i cs <;> rfl
  case call c =>
    obtain ⟨callee, args, tys⟩ := c
    simp only at h
    split at h
    · cases h
    · cases h
    · cases h
    · split at h
      · cases h
      · split at h <;> cases h
    · cases h
  all_goals exact absurd h (by decide)

/-! parted regions -/
def isLd : Op → Bool
  | .load .. => true
  | _ => false
/-- Makes something new, or writes there alone. -/
def hiW (pf : FuncId → Nat) : Op → Bool
  | .alloc _ => true
  | .store t .. => pf (oHi t) == 1
  | .call c => match c.callee with
    | .value (.func f) => f != oMask && pf f == 3
    | _ => false
  | _ => false
def loSt (pf : FuncId → Nat) : Op → Bool
  | .store t .. => pf (oHi t) != 1
  | _ => false
def hiSt (pf : FuncId → Nat) : Op → Bool
  | .store t .. => pf (oHi t) == 1
  | _ => false
theorem putAt_spec {σ : Sto} {t : TypeId} {x y : AV} {r : AV × Sto} (h : putAt I σ t x y = some r) : ∃ id o s, x = .r id o ∧ r = (.v undef, upd σ id (some s)) ∧ (σ id).isSome = true := by
  unfold putAt at h
  obtain ⟨i, _, h⟩ := Option.bind_eq_some_iff.1 h
  obtain ⟨ls, _, h⟩ := Option.bind_eq_some_iff.1 h
  split at h
  case isFalse => cases h
  cases x with
  | r id o =>
    simp only at h
    cases hs : σ id with
    | none => rw [hs] at h; cases h
    | some s =>
      rw [hs] at h
      cases s with
      | ob T cs =>
        obtain ⟨cs1, _, rfl⟩ := Option.map_eq_some_iff.1 h
        exact ⟨id, o, _, rfl, rfl, by rw [hs]; rfl⟩
      | row E sz n cs =>
        obtain ⟨cs1, _, rfl⟩ := Option.map_eq_some_iff.1 h
        exact ⟨id, o, _, rfl, rfl, by rw [hs]; rfl⟩
      | fz cs => cases h
  | _ => cases h
/-- A store looks at one number alone. -/
theorem putAt_congr {σ τ : Sto} {t : TypeId} {id o : Nat} {y : AV} (h : σ id = τ id) : (∃ s, putAt I σ t (.r id o) y = some (.v undef, upd σ id s) ∧ putAt I τ t (.r id o) y = some (.v undef, upd τ id s)) ∨ (putAt I σ t (.r id o) y = none ∧ putAt I τ t (.r id o) y = none) := by
  unfold putAt
  cases I t with
  | none => exact .inr ⟨rfl, rfl⟩
  | some i =>
    simp only [Option.bind_some]
    cases leaves y with
    | none => exact .inr ⟨rfl, rfl⟩
    | some ls =>
      simp only [Option.bind_some]
      split
      · rw [h]
        cases hτ : τ id with
        | none => exact .inr ⟨rfl, rfl⟩
        | some s =>
          cases s
          case ob T cs =>
            simp only []
            cases setRange cs o ls with
            | none => exact .inr ⟨rfl, rfl⟩
            | some cs1 => exact .inl ⟨_, rfl, rfl⟩
          case row E sz n cs =>
            simp only []
            cases setRange cs o ls with
            | none => exact .inr ⟨rfl, rfl⟩
            | some cs1 => exact .inl ⟨_, rfl, rfl⟩
          case fz cs => exact .inr ⟨rfl, rfl⟩
      · exact .inr ⟨rfl, rfl⟩
theorem hiW_low {e : Nat → AV} {σ : Sto} {key : Nat} {op : Op} (h : hiW pf op = true) (hm : pf oMaskOn = 1) (hk : pf oMask ≤ key) {r : AV × Sto} (hr : evOp I C pf e σ key op = some r) : ∀ i, i < pf oMask → r.2 i = σ i := by
  cases op <;> simp only [hiW, reduceCtorEq, Bool.false_eq_true] at h
  case alloc t =>
    simp only [evOp] at hr
    obtain ⟨i, _, rfl⟩ := Option.map_eq_some_iff.1 hr
    intro j hj
    simp only [upd]
    rw [if_neg (by omega)]
  case call c =>
    obtain ⟨callee, args, tys⟩ := c
    simp only at h
    split at h
    · rename_i f
      simp only [Bool.and_eq_true, bne_iff_ne, ne_eq, beq_iff_eq] at h
      have hp3 := h.2
      simp only [evOp, callOp] at hr
      rw [if_neg (by omega), if_pos (.inr hp3), if_pos hp3] at hr
      split at hr
      · obtain ⟨z, _, hr⟩ := Option.bind_eq_some_iff.1 hr
        split at hr
        · split at hr
          · obtain rfl := Option.some.inj hr
            intro j hj
            simp only [upd]
            rw [if_neg (by omega)]
          · cases hr
        · cases hr
      · cases hr
    · cases h
  case store t x y =>
    simp only [evOp] at hr
    split at hr
    case isFalse => cases hr
    rename_i hst
    obtain ⟨id, o, s, hx, rfl, _⟩ := putAt_spec hr
    rw [hx] at hst
    simp only [beq_iff_eq] at h
    simp only [stOk, hm, if_true, h, decide_eq_true_eq] at hst
    intro j hj
    simp only [upd]
    rw [if_neg (by omega)]
theorem ld_low {e : Nat → AV} {σ τ : Sto} {key : Nat} {op : Op} (h : isLd op = true) (hm : pf oMaskOn = 1) (hστ : ∀ i, i < pf oMask → τ i = σ i) : (evOp I C pf e τ key op).map Prod.fst = (evOp I C pf e σ key op).map Prod.fst := by
  cases op <;> simp only [isLd, reduceCtorEq, Bool.false_eq_true] at h
  case load t x =>
    have : lookAt pf τ = lookAt pf σ := by
      unfold lookAt
      split
      · rfl
      · funext i
        split
        · exact hστ i (by assumption)
        · rfl
    simp only [evOp, this]
    cases I t with
    | none => rfl
    | some i =>
      simp only [Option.bind_some]
      cases cellsAt (lookAt pf σ) (val e x) with
      | none => rfl
      | some cs =>
        simp only [Option.bind_some]
        cases takeVal i cs <;> rfl
/-! floored regions; two blocks made -/
def isSt : Op → Bool
  | .store .. => true
  | _ => false
def isAl : Op → Bool
  | .alloc _ => true
  | _ => false
theorem st_fl {e : Nat → AV} {σ : Sto} {key : Nat} {op : Op} (h : isSt op = true) (hm : ¬ pf oMaskOn = 1) (hf : pf oFlOn = 1) (hs : ¬ pf oFlS = 1) {r : AV × Sto} (hr : evOp I C pf e σ key op = some r) : ∀ i, 12 ≤ i → r.2 i = σ i := by
  cases op <;> simp only [isSt, reduceCtorEq, Bool.false_eq_true] at h
  case store t x y =>
    simp only [evOp] at hr
    split at hr
    case isFalse => cases hr
    rename_i hst
    obtain ⟨id, o, s, hx, rfl, _⟩ := putAt_spec hr
    rw [hx] at hst
    simp only [stOk, hm, hf, hs, if_true, if_false, decide_eq_true_eq] at hst
    intro j hj
    simp only [upd]
    rw [if_neg (by omega)]
theorem ld_fl {e : Nat → AV} {σ τ : Sto} {key : Nat} {op : Op} (h : isLd op = true) (hm : ¬ pf oMaskOn = 1) (hf : pf oFlOn = 1) (hστ : ∀ i, 12 ≤ i → i < pf oMask → τ i = σ i) : (evOp I C pf e τ key op).map Prod.fst = (evOp I C pf e σ key op).map Prod.fst := by
  cases op <;> simp only [isLd, reduceCtorEq, Bool.false_eq_true] at h
  case load t x =>
    have : lookAt pf τ = lookAt pf σ := by
      unfold lookAt
      split
      · rfl
      · first | simp only [hm, hf, if_true, if_false] | skip
        funext i
        split
        · rename_i hi
          exact hστ i hi.1 hi.2
        · rfl
    simp only [evOp, this]
    cases I t with
    | none => rfl
    | some i =>
      simp only [Option.bind_some]
      cases cellsAt (lookAt pf σ) (val e x) with
      | none => rfl
      | some cs =>
        simp only [Option.bind_some]
        cases takeVal i cs <;> rfl
/-- A call that lends, with what stands from 12 on left as it is. -/
def isC4 (pf : FuncId → Nat) : Op → Bool
  | .call c => match c.callee with
    | .value (.func f) => f != oMask && pf f == 4
    | _ => false
  | _ => false
theorem c4_fl {e : Nat → AV} {σ : Sto} {key : Nat} {op : Op} (h : isC4 pf op = true) {r : AV × Sto} (hr : evOp I C pf e σ key op = some r) : ∀ i, 12 ≤ i → i < pf oMask → r.2 i = σ i := by
  cases op <;> simp only [isC4, reduceCtorEq, Bool.false_eq_true] at h
  case call c =>
    obtain ⟨callee, args, tys⟩ := c
    simp only at h
    split at h
    · rename_i f
      simp only [Bool.and_eq_true, bne_iff_ne, ne_eq, beq_iff_eq] at h
      have hp4 := h.2
      simp only [evOp, callOp] at hr
      rw [if_neg (by omega), if_neg (by omega), if_pos hp4] at hr
      obtain ⟨r0, _, hc⟩ := Option.bind_eq_some_iff.1 hr
      split at hc
      · rename_i hall
        obtain rfl := Option.some.inj hc
        exact hall
      · cases hc
    · cases h
theorem upd_swap {σ : Sto} {i j : Nat} {a b : Option Slot} (h : i ≠ j) : upd (upd σ i a) j b = upd (upd σ j b) i a := by
  funext k
  simp only [upd]
  by_cases h1 : k = i <;> by_cases h2 : k = j <;> simp_all
theorem al_swap {e : Nat → AV} {σ : Sto} {k1 k2 : Nat} {p q : Op} (hk : k1 ≠ k2) (hp : isAl p = true) (hq : isAl q = true) :
    ((evOp I C pf e σ k1 p).bind fun a => (evOp I C pf e a.2 k2 q).map fun b => (a.1, b.1, b.2)) = ((evOp I C pf e σ k2 q).bind fun b => (evOp I C pf e b.2 k1 p).map fun a => (a.1, b.1, a.2)) := by
  cases p <;> simp only [isAl, reduceCtorEq, Bool.false_eq_true] at hp
  case alloc t =>
  cases q <;> simp only [isAl, reduceCtorEq, Bool.false_eq_true] at hq
  case alloc t' =>
  simp only [evOp]
  cases I t with
  | none => cases I t' <;> rfl
  | some i =>
    cases I t' with
    | none => rfl
    | some j => simp only [Option.map_some, Option.bind_some, upd_swap hk]
/-- Two stores of a parted region. -/
theorem st_swap {e : Nat → AV} {σ : Sto} {k1 k2 : Nat} {p q : Op} (hm : pf oMaskOn = 1) (hp : loSt pf p = true) (hq : hiSt pf q = true) :
    ((evOp I C pf e σ k1 p).bind fun a => (evOp I C pf e a.2 k2 q).map fun b => (a.1, b.1, b.2)) = ((evOp I C pf e σ k2 q).bind fun b => (evOp I C pf e b.2 k1 p).map fun a => (a.1, b.1, a.2)) := by
  cases p <;> simp only [loSt, reduceCtorEq, Bool.false_eq_true] at hp
  case store t x y =>
  cases q <;> simp only [hiSt, reduceCtorEq, Bool.false_eq_true] at hq
  case store t' x' y' =>
  simp only [bne_iff_ne, ne_eq] at hp
  simp only [beq_iff_eq] at hq
  simp only [evOp]
  by_cases h1 : stOk pf t (val e x) = true
  · by_cases h2 : stOk pf t' (val e x') = true
    · simp only [h1, h2, if_true]
      simp only [stOk, hm, hp, hq, if_true, if_false] at h1 h2
      cases hx : val e x <;> rw [hx] at h1 <;> simp only [Bool.false_eq_true] at h1
      case r id o =>
      cases hx' : val e x' <;> rw [hx'] at h2 <;> simp only [Bool.false_eq_true] at h2
      case r id' o' =>
      simp only [decide_eq_true_eq] at h1 h2
      have hne : id ≠ id' := by omega
      rcases putAt_congr (I := I) (σ := σ) (τ := σ) (t := t) (id := id) (o := o) (y := val e y) rfl with ⟨s, e1, _⟩ | ⟨e1, _⟩
      · rcases putAt_congr (I := I) (σ := σ) (τ := upd σ id s) (t := t') (id := id') (o := o') (y := val e y') (by simp [upd, Ne.symm hne]) with ⟨s', f1, f2⟩ | ⟨f1, f2⟩
        · rcases putAt_congr (I := I) (σ := σ) (τ := upd σ id' s') (t := t) (id := id) (o := o) (y := val e y) (by simp [upd, hne]) with ⟨s2, g1, g2⟩ | ⟨g1, g2⟩
          · rw [e1] at g1
            simp only [e1, f1, f2, Option.bind_some, Option.map_some]
            rw [g2]
            have h3 : upd σ id s = upd σ id s2 := by simpa using g1
            have h4 : s = s2 := by have := congrFun h3 id; simpa [upd] using this
            subst h4
            simp only [Option.map_some, upd_swap hne]
          · rw [e1] at g1; cases g1
        · simp only [e1, f1, f2, Option.bind_some, Option.map_none, Option.bind_none]
      · cases h3 : putAt I σ t' (.r id' o') (val e y') with
        | none => simp only [e1, Option.bind_none]
        | some r =>
          obtain ⟨i2, o2, s2, h4, rfl, _⟩ := putAt_spec h3
          injection h4 with h4 h5
          subst h4
          rcases putAt_congr (I := I) (σ := σ) (τ := upd σ id' (some s2)) (t := t) (id := id) (o := o) (y := val e y) (by simp [upd, hne]) with ⟨s, g1, g2⟩ | ⟨g1, g2⟩
          · rw [e1] at g1; cases g1
          · simp only [e1, g2, Option.bind_none, Option.bind_some, Option.map_none]
    · simp only [h1, h2, if_true, if_false, Option.bind_none]
      cases putAt I σ t (val e x) (val e y) <;> rfl
  · by_cases h2 : stOk pf t' (val e x') = true
    · simp only [h1, h2, if_true, if_false, Option.bind_none]
      cases putAt I σ t' (val e x') (val e y') <;> rfl
    · simp only [h1, h2, if_false, Option.bind_none, Bool.false_eq_true]
end
end Go.Proofs.YtegbkihgnofkfaaGreatDoor.Ev

/-
The engine, part 18: a region that draws its order.
-/
namespace Go.Proofs.YtegbkihgnofkfaaGreatDoor.Ev
section
set_option linter.unusedVariables false
set_option linter.unusedSimpArgs false
open Go Go.RowKit
set_option linter.unusedVariables false
set_option linter.unusedSimpArgs false
variable {P : Program} {I : Tab} {C : Sem1} {pf : FuncId → Nat} {ops : Array Oper}

/-- What an operation gives, its guard asked first. -/
noncomputable def resp (I : Tab) (C : Sem1) (pf : FuncId → Nat) (ops : Array Oper) (key : Nat) (o : Oper) (e : Nat → AV) (σ : Sto) : Option (AV × Sto) :=
  match wantedE ops e o with
  | none => none
  | some false => some (.v undef, σ)
  | some true => evOp I C pf e σ key o.op

theorem ev1_eq {base i : Nat} {o : Oper} (h : ops[i]? = some o) (s : St) : ev1 I C pf ops base i s = (resp I C pf ops (base + 4 * i) o s.e s.σ).map fun q => ({ s with σ := q.2 } : St).put o.dst q.1 := by
  unfold ev1 resp
  simp only [h]
  split
  · rename_i hw; simp [hw]
  · rename_i hw; simp [hw]
  · rename_i hw; simp only [hw]

theorem wantedE_congr {o : Oper} {e e' : Nat → AV} (h : ∀ t ∈ o.looksAt ops, e t = e' t) : wantedE ops e o = wantedE ops e' o := by
  unfold wantedE
  split
  · rfl
  · rename_i j want hg
    cases hd : (ops[j]?).bind (·.dst) with
    | none => simp
    | some d =>
      have : e d = e' d := h d (by simp [Oper.looksAt, hg, hd])
      simp [this]

theorem resp_congr {o : Oper} {e e' : Nat → AV} (h : ∀ t ∈ o.looksAt ops, e t = e' t) (key : Nat) (σ : Sto) : resp I C pf ops key o e σ = resp I C pf ops key o e' σ := by
  unfold resp
  rw [wantedE_congr h]
  have : evOp I C pf e σ key o.op = evOp I C pf e' σ key o.op := evOp_congr fun t ht => h t (by
    simp only [Oper.looksAt, List.mem_append, List.mem_filterMap]
    exact .inl ⟨.tmp t, by simpa using ht, rfl⟩)
  rw [this]

theorem put_e (s : St) (d : Option Nat) (x : AV) (t : Nat) (h : d ≠ some t) : (s.put d x).e t = s.e t := by
  cases d with
  | none => rfl
  | some d =>
    have : t ≠ d := fun e => h (e ▸ rfl)
    simp [St.put, this]

theorem put_comm (s : St) (d d' : Option Nat) (x y : AV) (σ1 : Sto) (h : ∀ t, d = some t → d' ≠ some t) :
    ({ s.put d x with σ := σ1 } : St).put d' y = (({ s with σ := σ1 } : St).put d' y).put d x := by
  cases d with
  | none => cases d' <;> rfl
  | some d =>
    cases d' with
    | none => rfl
    | some d' =>
      have hne : d ≠ d' := fun e => h d rfl (e ▸ rfl)
      simp only [St.put, St.mk.injEq, and_true]
      funext t
      by_cases h1 : t = d' <;> by_cases h2 : t = d <;> simp_all

theorem put_σ (s : St) (d : Option Nat) (x : AV) : (s.put d x).σ = s.σ := by cases d <;> rfl
theorem put_self (s : St) (d : Option Nat) (x : AV) : ({ s.put d x with σ := s.σ } : St) = s.put d x := by cases d <;> rfl

theorem comm_gen {base i j : Nat} {x y : Oper} (hx : ops[i]? = some x) (hy : ops[j]? = some y) (hap : x.apart ops y = true) (vx : (Nat → AV) → Sto → Option AV)
    (h1 : ∀ e σ, resp I C pf ops (base + 4 * i) x e σ = (vx e σ).map (·, σ)) (h3 : ∀ e σ b σ1, resp I C pf ops (base + 4 * j) y e σ = some (b, σ1) → ∀ e', vx e' σ1 = vx e' σ) (s : St) :
    (ev1 I C pf ops base i s).bind (ev1 I C pf ops base j) = (ev1 I C pf ops base j s).bind (ev1 I C pf ops base i) := by
  obtain ⟨a1, a2, a3⟩ := Oper.apart_spec hap
  have hvc : ∀ {e e' : Nat → AV} (σ : Sto), (∀ t ∈ x.looksAt ops, e t = e' t) → vx e σ = vx e' σ := by
    intro e e' σ hee
    have := resp_congr (I := I) (C := C) (pf := pf) hee (base + 4 * i) σ
    rw [h1, h1] at this
    cases h5 : vx e σ <;> cases h6 : vx e' σ <;> simp_all
  rw [ev1_eq hx, ev1_eq hy, h1]
  have hyc : ∀ (v : AV) (σ : Sto), resp I C pf ops (base + 4 * j) y (s.put x.dst v).e σ = resp I C pf ops (base + 4 * j) y s.e σ := fun v σ =>
    resp_congr (fun t ht => put_e s x.dst v t (fun e => a1 t e ht)) _ _
  cases hv : vx s.e s.σ with
  | none =>
    simp only [Option.map_none, Option.bind_none]
    cases hr : resp I C pf ops (base + 4 * j) y s.e s.σ with
    | none => rfl
    | some q =>
      obtain ⟨b, σ1⟩ := q
      simp only [Option.map_some, Option.bind_some]
      rw [ev1_eq hx, h1]
      have h5 : vx ((({ s with σ := σ1 } : St).put y.dst b).e) ((({ s with σ := σ1 } : St).put y.dst b).σ) = none := by
        rw [put_σ]
        rw [hvc (e' := s.e) σ1 (fun t ht => put_e ({ s with σ := σ1 } : St) y.dst b t (fun e => a3 t e ht)), h3 _ _ _ _ hr, hv]
      rw [h5]
      rfl
  | some v =>
    simp only [Option.map_some, Option.bind_some]
    rw [ev1_eq hy]
    have hs : ({ s with σ := s.σ } : St) = s := rfl
    rw [hs, put_σ, hyc]
    cases hr : resp I C pf ops (base + 4 * j) y s.e s.σ with
    | none => rfl
    | some q =>
      obtain ⟨b, σ1⟩ := q
      simp only [Option.map_some, Option.bind_some]
      rw [ev1_eq hx, h1]
      have h5 : vx ((({ s with σ := σ1 } : St).put y.dst b).e) ((({ s with σ := σ1 } : St).put y.dst b).σ) = some v := by
        rw [put_σ]
        rw [hvc (e' := s.e) σ1 (fun t ht => put_e ({ s with σ := σ1 } : St) y.dst b t (fun e => a3 t e ht)), h3 _ _ _ _ hr, hv]
      rw [h5]
      simp only [Option.map_some]
      congr 1
      rw [put_comm s x.dst y.dst v b σ1 a2]

theorem resp_pure {key : Nat} {x : Oper} (h : opCls pf x.op = 0) (e : Nat → AV) (σ : Sto) : resp I C pf ops key x e σ = ((resp I C pf ops 0 x e (fun _ => none)).map Prod.fst).map (·, σ) := by
  unfold resp
  split
  · rfl
  · rfl
  · exact pure_op h σ key
theorem resp_read {key : Nat} {x : Oper} (h : opCls pf x.op = 1) (e : Nat → AV) (σ : Sto) : resp I C pf ops key x e σ = ((resp I C pf ops 0 x e σ).map Prod.fst).map (·, σ) := by
  unfold resp
  split
  · rfl
  · rfl
  · exact read_op h σ key

/-- May x and y be done in either order? -/
def indep (pf : FuncId → Nat) (ops : Array Oper) (x y : Oper) : Bool :=
  x.apart ops y && (opCls pf x.op == 0 || opCls pf y.op == 0 || (opCls pf x.op == 1 && opCls pf y.op == 1) ||
    (pf oMaskOn == 1 && ((isLd x.op && hiW pf y.op) || (hiW pf x.op && isLd y.op) || (loSt pf x.op && hiSt pf y.op) || (hiSt pf x.op && loSt pf y.op))) ||
    (pf oFlOn == 1 && pf oMaskOn != 1 && ((pf oFlS != 1 && ((isLd x.op && isSt y.op) || (isSt x.op && isLd y.op))) || (isLd x.op && isC4 pf y.op) || (isC4 pf x.op && isLd y.op))) || (isAl x.op && isAl y.op))
theorem isLd_cls {op : Op} (h : isLd op = true) : opCls pf op = 0 ∨ opCls pf op = 1 := by
  cases op <;> simp only [isLd, reduceCtorEq, Bool.false_eq_true] at h
  simp only [opCls]
  split
  · exact .inl rfl
  · exact .inr rfl
theorem resp_ld {key : Nat} {x : Oper} (h : isLd x.op = true) (e : Nat → AV) (σ : Sto) : resp I C pf ops key x e σ = ((resp I C pf ops 0 x e σ).map Prod.fst).map (·, σ) := by
  rcases isLd_cls (pf := pf) h with h | h
  · rw [resp_pure h]
    congr 1
    have := resp_pure (I := I) (C := C) (ops := ops) (key := 0) h e σ
    rw [this]
    cases resp I C pf ops 0 x e (fun _ => none) <;> rfl
  · exact resp_read h e σ
theorem comm_ld {base i j : Nat} {x y : Oper} (hx : ops[i]? = some x) (hy : ops[j]? = some y) (hap : x.apart ops y = true) (hm : pf oMaskOn = 1) (hb : pf oMask ≤ base) (h1 : isLd x.op = true) (h2 : hiW pf y.op = true) (s : St) :
    (ev1 I C pf ops base i s).bind (ev1 I C pf ops base j) = (ev1 I C pf ops base j s).bind (ev1 I C pf ops base i) := by
  refine comm_gen hx hy hap (fun e σ => (resp I C pf ops 0 x e σ).map Prod.fst) (fun e σ => resp_ld h1 e σ) (fun e σ b σ1 hr e' => ?_) s
  have hlow : ∀ i, i < pf oMask → σ1 i = σ i := by
    unfold resp at hr
    split at hr
    · cases hr
    · simp only [Option.some.injEq, Prod.mk.injEq] at hr
      obtain ⟨_, rfl⟩ := hr
      exact fun _ _ => rfl
    · exact hiW_low (r := (b, σ1)) h2 hm (by omega) hr
  simp only [resp]
  split
  · rfl
  · rfl
  · exact ld_low h1 hm hlow
theorem comm_two {base i j : Nat} {x y : Oper} (hx : ops[i]? = some x) (hy : ops[j]? = some y) (hap : x.apart ops y = true)
    (h : ∀ e σ, ((resp I C pf ops (base + 4 * i) x e σ).bind fun a => (resp I C pf ops (base + 4 * j) y e a.2).map fun b => (a.1, b.1, b.2)) = ((resp I C pf ops (base + 4 * j) y e σ).bind fun b => (resp I C pf ops (base + 4 * i) x e b.2).map fun a => (a.1, b.1, a.2))) (s : St) :
    (ev1 I C pf ops base i s).bind (ev1 I C pf ops base j) = (ev1 I C pf ops base j s).bind (ev1 I C pf ops base i) := by
  obtain ⟨a1, a2, a3⟩ := Oper.apart_spec hap
  have hl : (ev1 I C pf ops base i s).bind (ev1 I C pf ops base j) = ((resp I C pf ops (base + 4 * i) x s.e s.σ).bind fun a => (resp I C pf ops (base + 4 * j) y s.e a.2).map fun b => (a.1, b.1, b.2)).map fun q => (({ s with σ := q.2.2 } : St).put y.dst q.2.1).put x.dst q.1 := by
    rw [ev1_eq hx]
    cases resp I C pf ops (base + 4 * i) x s.e s.σ with
    | none => rfl
    | some a =>
      simp only [Option.map_some, Option.bind_some]
      rw [ev1_eq hy, put_σ, resp_congr (fun t ht => put_e ({ s with σ := a.2 } : St) x.dst a.1 t (fun e => a1 t e ht))]
      simp only [Option.map_map]
      congr 1
      funext b
      exact put_comm ({ s with σ := a.2 } : St) x.dst y.dst a.1 b.1 b.2 a2
  have hr : (ev1 I C pf ops base j s).bind (ev1 I C pf ops base i) = ((resp I C pf ops (base + 4 * j) y s.e s.σ).bind fun b => (resp I C pf ops (base + 4 * i) x s.e b.2).map fun a => (a.1, b.1, a.2)).map fun q => (({ s with σ := q.2.2 } : St).put y.dst q.2.1).put x.dst q.1 := by
    rw [ev1_eq hy]
    cases resp I C pf ops (base + 4 * j) y s.e s.σ with
    | none => rfl
    | some b =>
      simp only [Option.map_some, Option.bind_some]
      rw [ev1_eq hx, put_σ, resp_congr (fun t ht => put_e ({ s with σ := b.2 } : St) y.dst b.1 t (fun e => a3 t e ht))]
      simp only [Option.map_map]
      congr 1
      funext a
      cases y.dst <;> rfl
  rw [hl, hr, h]
theorem comm_st {base i j : Nat} {x y : Oper} (hx : ops[i]? = some x) (hy : ops[j]? = some y) (hap : x.apart ops y = true) (hm : pf oMaskOn = 1) (h1 : loSt pf x.op = true) (h2 : hiSt pf y.op = true) (s : St) :
    (ev1 I C pf ops base i s).bind (ev1 I C pf ops base j) = (ev1 I C pf ops base j s).bind (ev1 I C pf ops base i) := by
  refine comm_two hx hy hap (fun e σ => ?_) s
  unfold resp
  cases wantedE ops e x with
  | none => cases wantedE ops e y with
    | none => rfl
    | some c => cases c <;> simp [Option.bind]
                cases evOp I C pf e σ (base + 4 * j) y.op <;> rfl
  | some b => cases wantedE ops e y with
    | none =>
      cases b
      · rfl
      · simp only [Option.bind_none]
        cases evOp I C pf e σ (base + 4 * i) x.op <;> rfl
    | some c =>
      cases b <;> cases c
      · rfl
      · simp only [Option.bind_some]
        cases evOp I C pf e σ (base + 4 * j) y.op <;> rfl
      · simp only [Option.bind_some]
        cases evOp I C pf e σ (base + 4 * i) x.op <;> rfl
      · exact st_swap hm h1 h2

theorem comm_fl {base i j : Nat} {x y : Oper} (hx : ops[i]? = some x) (hy : ops[j]? = some y) (hap : x.apart ops y = true) (hm : ¬ pf oMaskOn = 1) (hf : pf oFlOn = 1) (hs : ¬ pf oFlS = 1) (h1 : isLd x.op = true) (h2 : isSt y.op = true) (s : St) :
    (ev1 I C pf ops base i s).bind (ev1 I C pf ops base j) = (ev1 I C pf ops base j s).bind (ev1 I C pf ops base i) := by
  refine comm_gen hx hy hap (fun e σ => (resp I C pf ops 0 x e σ).map Prod.fst) (fun e σ => resp_ld h1 e σ) (fun e σ b σ1 hr e' => ?_) s
  have hlow : ∀ i, 12 ≤ i → i < pf oMask → σ1 i = σ i := by
    unfold resp at hr
    split at hr
    · cases hr
    · simp only [Option.some.injEq, Prod.mk.injEq] at hr
      obtain ⟨_, rfl⟩ := hr
      exact fun _ _ _ => rfl
    · exact fun i hi _ => st_fl (r := (b, σ1)) h2 hm hf hs hr i hi
  simp only [resp]
  split
  · rfl
  · rfl
  · exact ld_fl h1 hm hf hlow
theorem comm_c4 {base i j : Nat} {x y : Oper} (hx : ops[i]? = some x) (hy : ops[j]? = some y) (hap : x.apart ops y = true) (hm : ¬ pf oMaskOn = 1) (hf : pf oFlOn = 1) (hb : pf oMask ≤ base) (h1 : isLd x.op = true) (h2 : isC4 pf y.op = true) (s : St) :
    (ev1 I C pf ops base i s).bind (ev1 I C pf ops base j) = (ev1 I C pf ops base j s).bind (ev1 I C pf ops base i) := by
  refine comm_gen hx hy hap (fun e σ => (resp I C pf ops 0 x e σ).map Prod.fst) (fun e σ => resp_ld h1 e σ) (fun e σ b σ1 hr e' => ?_) s
  have hlow : ∀ i, 12 ≤ i → i < pf oMask → σ1 i = σ i := by
    unfold resp at hr
    split at hr
    · cases hr
    · simp only [Option.some.injEq, Prod.mk.injEq] at hr
      obtain ⟨_, rfl⟩ := hr
      exact fun _ _ _ => rfl
    · exact fun i hi hl => c4_fl (r := (b, σ1)) h2 hr i hi hl
  simp only [resp]
  split
  · rfl
  · rfl
  · exact ld_fl h1 hm hf hlow
theorem comm_al {base i j : Nat} {x y : Oper} (hx : ops[i]? = some x) (hy : ops[j]? = some y) (hap : x.apart ops y = true) (hij : i ≠ j) (h1 : isAl x.op = true) (h2 : isAl y.op = true) (s : St) :
    (ev1 I C pf ops base i s).bind (ev1 I C pf ops base j) = (ev1 I C pf ops base j s).bind (ev1 I C pf ops base i) := by
  refine comm_two hx hy hap (fun e σ => ?_) s
  unfold resp
  cases wantedE ops e x with
  | none => cases wantedE ops e y with
    | none => rfl
    | some c => cases c <;> simp [Option.bind]
                cases evOp I C pf e σ (base + 4 * j) y.op <;> rfl
  | some b => cases wantedE ops e y with
    | none =>
      cases b
      · rfl
      · simp only [Option.bind_none]
        cases evOp I C pf e σ (base + 4 * i) x.op <;> rfl
    | some c =>
      cases b <;> cases c
      · rfl
      · simp only [Option.bind_some]
        cases evOp I C pf e σ (base + 4 * j) y.op <;> rfl
      · simp only [Option.bind_some]
        cases evOp I C pf e σ (base + 4 * i) x.op <;> rfl
      · exact al_swap (by omega) h1 h2

theorem apart_symm {x y : Oper} (h : x.apart ops y = true) : y.apart ops x = true := by
  obtain ⟨a1, a2, a3⟩ := Oper.apart_spec h
  unfold Oper.apart
  cases hx : x.dst <;> cases hy : y.dst <;> simp_all
  exact fun e => a2 e.symm

theorem comm_of {base i j : Nat} {x y : Oper} (hb : pf oMaskOn = 1 ∨ pf oFlOn = 1 → pf oMask ≤ base) (hx : ops[i]? = some x) (hy : ops[j]? = some y) (h : indep pf ops x y = true) (s : St) :
    (ev1 I C pf ops base i s).bind (ev1 I C pf ops base j) = (ev1 I C pf ops base j s).bind (ev1 I C pf ops base i) := by
  by_cases hij : i = j
  · subst hij
    rfl
  simp only [indep, Bool.and_eq_true, Bool.or_eq_true, beq_iff_eq, bne_iff_ne, ne_eq] at h
  obtain ⟨hap, h⟩ := h
  rcases h with ((((h | h) | ⟨h, h'⟩) | ⟨hm, ((⟨h, h'⟩ | ⟨h, h'⟩) | ⟨h, h'⟩) | ⟨h, h'⟩⟩) | ⟨⟨hf, hm⟩, (⟨hs, ⟨h, h'⟩ | ⟨h, h'⟩⟩ | ⟨h, h'⟩) | ⟨h, h'⟩⟩) | ⟨h, h'⟩
  · exact comm_gen hx hy hap _ (fun e σ => resp_pure h e σ) (fun _ _ _ _ _ _ => rfl) s
  · exact (comm_gen hy hx (apart_symm hap) _ (fun e σ => resp_pure h e σ) (fun _ _ _ _ _ _ => rfl) s).symm
  · refine comm_gen hx hy hap (fun e σ => (resp I C pf ops 0 x e σ).map Prod.fst) (fun e σ => resp_read h e σ) (fun e σ b σ1 hr e' => ?_) s
    rw [resp_read h'] at hr
    obtain ⟨q, _, hq⟩ := Option.map_eq_some_iff.1 hr
    simp only [Prod.mk.injEq] at hq
    rw [hq.2]
  · exact comm_ld hx hy hap hm (hb (.inl hm)) h h' s
  · exact (comm_ld hy hx (apart_symm hap) hm (hb (.inl hm)) h' h s).symm
  · exact comm_st hx hy hap hm h h' s
  · exact (comm_st hy hx (apart_symm hap) hm h' h s).symm
  · exact comm_fl hx hy hap hm hf hs h h' s
  · exact (comm_fl hy hx (apart_symm hap) hm hf hs h' h s).symm
  · exact comm_c4 hx hy hap hm hf (hb (.inr hf)) h h' s
  · exact (comm_c4 hy hx (apart_symm hap) hm hf (hb (.inr hf)) h' h s).symm
  · exact comm_al hx hy hap hij h h' s

/-! ### lists of operations -/
theorem evL_append (base : Nat) : ∀ (L M : List Nat) (s : St), evL I C pf ops base (L ++ M) s = (evL I C pf ops base L s).bind (evL I C pf ops base M)
  | [], M, s => rfl
  | i :: L, M, s => by
    simp only [List.cons_append, evL]
    cases ev1 I C pf ops base i s with
    | none => rfl
    | some s1 => exact evL_append base L M s1

def Comm (I : Tab) (C : Sem1) (pf : FuncId → Nat) (ops : Array Oper) (base i j : Nat) : Prop :=
  ∀ s, (ev1 I C pf ops base i s).bind (ev1 I C pf ops base j) = (ev1 I C pf ops base j s).bind (ev1 I C pf ops base i)

theorem evL_front (base x : Nat) : ∀ (A B : List Nat), (∀ y ∈ A, Comm I C pf ops base x y) → ∀ s, evL I C pf ops base (A ++ x :: B) s = evL I C pf ops base (x :: (A ++ B)) s
  | [], B, _, s => rfl
  | y :: A, B, h, s => by
    have ih := evL_front base x A B (fun z hz => h z (List.mem_cons_of_mem _ hz))
    have hc := h y List.mem_cons_self s
    simp only [List.cons_append, evL]
    have e1 : (ev1 I C pf ops base y s).bind (evL I C pf ops base (A ++ x :: B)) = ((ev1 I C pf ops base y s).bind (ev1 I C pf ops base x)).bind (evL I C pf ops base (A ++ B)) := by
      cases ev1 I C pf ops base y s with
      | none => rfl
      | some s1 =>
        simp only [Option.bind_some]
        rw [ih s1]
        rfl
    have e2 : ((ev1 I C pf ops base x s).bind fun s1 => (ev1 I C pf ops base y s1).bind (evL I C pf ops base (A ++ B))) = ((ev1 I C pf ops base x s).bind (ev1 I C pf ops base y)).bind (evL I C pf ops base (A ++ B)) := by
      cases ev1 I C pf ops base x s <;> rfl
    rw [e1, e2, hc]

/-- A list of numbers in which what stands in the wrong order may be done in either order gives what the numbers in order give. -/
theorem evL_sorted (base : Nat) : ∀ (M L : List Nat), M.Pairwise (· < ·) → L.Perm M → L.Pairwise (fun a b => b < a → Comm I C pf ops base b a) → ∀ s, evL I C pf ops base L s = evL I C pf ops base M s
  | [], L, _, hp, _, s => by
    have := hp.eq_nil
    subst this
    rfl
  | x :: M, L, hM, hp, hL, s => by
    have hx : x ∈ L := hp.symm.subset List.mem_cons_self
    obtain ⟨A, B, rfl⟩ := List.append_of_mem hx
    have hp2 : (A ++ B).Perm M := by
      have h1 : (x :: (A ++ B)).Perm (x :: M) := (List.perm_middle.symm).trans hp
      exact h1.cons_inv
    obtain ⟨hxM, hMp⟩ := List.pairwise_cons.1 hM
    have hA : ∀ y ∈ A, Comm I C pf ops base x y := by
      intro y hy
      have hlt : x < y := hxM y (hp2.subset (List.mem_append_left _ hy))
      exact (List.pairwise_append.1 hL).2.2 y hy x List.mem_cons_self hlt
    rw [evL_front base x A B hA]
    simp only [evL]
    cases ev1 I C pf ops base x s with
    | none => rfl
    | some s1 =>
      simp only [Option.bind_some]
      refine evL_sorted base M (A ++ B) hMp hp2 (hL.sublist ?_) s1
      exact List.Sublist.append (List.Sublist.refl _) (List.sublist_cons_self _ _)
end
end Go.Proofs.YtegbkihgnofkfaaGreatDoor.Ev

/-
The engine, part 19: every order that a region may draw gives the same.
-/
namespace Go.Proofs.YtegbkihgnofkfaaGreatDoor.Ev
section
set_option linter.unusedVariables false
set_option linter.unusedSimpArgs false
open Go Go.RowKit
set_option linter.unusedVariables false
set_option linter.unusedSimpArgs false
variable {P : Program} {I : Tab} {C : Sem1} {pf : FuncId → Nat} {ops : Array Oper}

def topoOk (ops : Array Oper) : Bool := (List.range ops.size).all fun i => ((ops[i]?).map fun o => o.after.all fun e => !Region.binds .any e || decide (e.on < i)).getD true
def masksOk (M : List Nat) (ops : Array Oper) : Bool :=
  (List.range ops.size).all fun i => (List.range i).all fun b => !(M.getD i 0).testBit b || ((ops[i]?).map fun o => o.after.any fun e => Region.binds .any e && (e.on == b || (decide (b < e.on) && (M.getD e.on 0).testBit b))).getD false
def pairsOk (pf : FuncId → Nat) (M : List Nat) (ops : Array Oper) : Bool :=
  (List.range ops.size).all fun x => (List.range x).all fun b => (M.getD x 0).testBit b || (match ops[b]?, ops[x]? with | some p, some q => indep pf ops p q | _, _ => true)
/-- M: of each operation, those that must come before it (a bit each). -/
def drawOk (pf : FuncId → Nat) (M : List Nat) (ops : Array Oper) : Bool := topoOk ops && masksOk M ops && pairsOk pf M ops

/-- b must come right before i. -/
def Direct (ops : Array Oper) (b i : Nat) : Prop := ∃ o, ops[i]? = some o ∧ ∃ e, e ∈ o.after ∧ Region.binds .any e = true ∧ e.on = b

theorem go_spec (ops : Array Oper) : ∀ (fuel t : Nat) (listed : Array Bool), listed.size = ops.size →
    (∀ i ∈ Region.linearise.go .any ops fuel t listed [], i < ops.size ∧ listed.getD i true = false) ∧ (Region.linearise.go .any ops fuel t listed []).Nodup ∧
    (Region.linearise.go .any ops fuel t listed []).Pairwise (fun a b => ¬ Direct ops b a) ∧
    (∀ b, listed.getD b false = false → ∀ i ∈ Region.linearise.go .any ops fuel t listed [], Direct ops b i → b ∈ Region.linearise.go .any ops fuel t listed [])
  | 0, t, listed, hs => by simp [Region.linearise.go]
  | fuel + 1, t, listed, hs => by
    have hunf : Region.linearise.go .any ops (fuel + 1) t listed [] =
        match (Region.ready .any ops listed)[t % (Region.ready .any ops listed).length]? with
        | some i => Region.linearise.go .any ops fuel (t / (Region.ready .any ops listed).length) (listed.setIfInBounds i true) [i]
        | none => ([] : List Nat).reverse := rfl
    rw [hunf]
    cases hg : (Region.ready .any ops listed)[t % (Region.ready .any ops listed).length]? with
    | none => simp
    | some i =>
      simp only []
      rw [linearise_go_acc]
      simp only [List.reverse_cons, List.reverse_nil, List.nil_append, List.singleton_append]
      have hmem := List.mem_of_getElem? hg
      simp only [Region.ready, List.mem_filter, List.mem_range, Bool.and_eq_true, Bool.not_eq_true'] at hmem
      obtain ⟨hi, hun, hpre⟩ := hmem
      have hs' : (listed.setIfInBounds i true).size = ops.size := by simpa using hs
      obtain ⟨g1, g2, g3, g4⟩ := go_spec ops fuel (t / (Region.ready .any ops listed).length) (listed.setIfInBounds i true) hs'
      have hget : ∀ j, j ≠ i → (listed.setIfInBounds i true).getD j true = listed.getD j true := by
        intro j hj
        simp [Array.getD_eq_getD_getElem?, Array.getElem?_setIfInBounds_ne (Ne.symm hj)]
      have hgetf : ∀ j, j ≠ i → (listed.setIfInBounds i true).getD j false = listed.getD j false := by
        intro j hj
        simp [Array.getD_eq_getD_getElem?, Array.getElem?_setIfInBounds_ne (Ne.symm hj)]
      have hself : (listed.setIfInBounds i true).getD i true = true := by
        have : i < listed.size := by omega
        simp [Array.getD_eq_getD_getElem?, this]
      have hni : ∀ j ∈ Region.linearise.go .any ops fuel (t / (Region.ready .any ops listed).length) (listed.setIfInBounds i true) [], j ≠ i := by
        intro j hj e
        subst e
        have := (g1 j hj).2
        rw [hself] at this
        cases this
      have hdir : ∀ b, Direct ops b i → listed.getD b false = true := by
        rintro b ⟨o, ho, e, he, hb, rfl⟩
        rw [ho] at hpre
        simp only [Option.map_some, Option.getD_some] at hpre
        have := Array.all_eq_true_iff_forall_mem.1 hpre e he
        simpa [hb] using this
      refine ⟨fun j hj => ?_, ?_, ?_, fun b hb j hj hd => ?_⟩
      · rcases List.mem_cons.1 hj with rfl | hj
        · exact ⟨hi, hun⟩
        · have := g1 j hj
          rw [hget j (hni j hj)] at this
          exact this
      · exact List.nodup_cons.2 ⟨fun h => hni i h rfl, g2⟩
      · refine List.pairwise_cons.2 ⟨fun b hb hd => ?_, g3⟩
        have h1 := hdir b hd
        have h2 := (g1 b hb)
        rw [hget b (hni b hb)] at h2
        have hlt : b < listed.size := by omega
        have e1 : listed.getD b false = listed[b] := by simp [Array.getD_eq_getD_getElem?, hlt]
        have e2 : listed.getD b true = listed[b] := by simp [Array.getD_eq_getD_getElem?, hlt]
        rw [e1] at h1
        rw [e2, h1] at h2
        simp at h2
      · rcases List.mem_cons.1 hj with rfl | hj
        · rw [hdir b hd] at hb
          cases hb
        · by_cases hbi : b = i
          · exact hbi ▸ List.mem_cons_self
          · exact List.mem_cons_of_mem _ (g4 b (by rw [hgetf b hbi]; exact hb) j hj hd)

/-- None is left out. -/
theorem go_all (htopo : topoOk ops = true) : ∀ (fuel t : Nat) (listed : Array Bool), listed.size = ops.size → (((List.range ops.size).filter fun i => !listed.getD i true).length ≤ fuel) →
    ∀ i, i < ops.size → listed.getD i true = false → i ∈ Region.linearise.go .any ops fuel t listed []
  | 0, t, listed, hs, hf, i, hi, hu => by
    have : i ∈ (List.range ops.size).filter fun i => !listed.getD i true := List.mem_filter.2 ⟨List.mem_range.2 hi, by simp [hu]⟩
    have := List.length_pos_of_mem this
    omega
  | fuel + 1, t, listed, hs, hf, i, hi, hu => by
    have hunf : Region.linearise.go .any ops (fuel + 1) t listed [] =
        match (Region.ready .any ops listed)[t % (Region.ready .any ops listed).length]? with
        | some i => Region.linearise.go .any ops fuel (t / (Region.ready .any ops listed).length) (listed.setIfInBounds i true) [i]
        | none => ([] : List Nat).reverse := rfl
    rw [hunf]
    -- the least that is not listed is ready
    have hready : Region.ready .any ops listed ≠ [] := by
      have key : ∀ n k, k < n → k < ops.size → listed.getD k true = false → ∃ m, m < ops.size ∧ listed.getD m true = false ∧ ∀ j, j < m → listed.getD j true = true := by
        intro n
        induction n with
        | zero => intro k hk; omega
        | succ n ih =>
          intro k hk hks hku
          by_cases hall : ∀ j, j < k → listed.getD j true = true
          · exact ⟨k, hks, hku, hall⟩
          · have : ∃ j, j < k ∧ listed.getD j true = false := by
              have h1 : ∃ j, ¬ (j < k → listed.getD j true = true) := Classical.not_forall.1 hall
              obtain ⟨j, hj⟩ := h1
              have h2 : j < k ∧ ¬ listed.getD j true = true := Classical.not_imp.1 hj
              exact ⟨j, h2.1, by simpa using h2.2⟩
            obtain ⟨j, hj, hju⟩ := this
            exact ih j (by omega) (by omega) hju
      obtain ⟨m, hm, hmu, hless⟩ := key (i + 1) i (by omega) hi hu
      intro hnil
      have hmem : m ∈ Region.ready .any ops listed := by
        simp only [Region.ready, List.mem_filter, List.mem_range, Bool.and_eq_true, Bool.not_eq_true']
        refine ⟨hm, hmu, ?_⟩
        have hget : ops[m]? = some ops[m] := by simp [hm]
        rw [hget]
        simp only [Option.map_some, Option.getD_some]
        refine Array.all_eq_true_iff_forall_mem.2 fun e he => ?_
        by_cases hb : Region.binds .any e = true
        · have h1 := List.all_eq_true.1 htopo m (List.mem_range.2 hm)
          rw [hget] at h1
          simp only [Option.map_some, Option.getD_some] at h1
          have h2 := Array.all_eq_true_iff_forall_mem.1 h1 e he
          simp only [hb, Bool.not_true, Bool.false_or, decide_eq_true_eq] at h2
          have h3 := hless e.on h2
          have hlt : e.on < listed.size := by omega
          have e1 : listed.getD e.on false = listed[e.on] := by simp [Array.getD_eq_getD_getElem?, hlt]
          have e2 : listed.getD e.on true = listed[e.on] := by simp [Array.getD_eq_getD_getElem?, hlt]
          rw [e2] at h3
          simp [e1, h3]
        · simp [hb]
      rw [hnil] at hmem
      cases hmem
    cases hg : (Region.ready .any ops listed)[t % (Region.ready .any ops listed).length]? with
    | none =>
      exfalso
      have hpos : 0 < (Region.ready .any ops listed).length := List.length_pos_iff.2 hready
      have hlt := Nat.mod_lt t hpos
      rw [List.getElem?_eq_getElem hlt] at hg
      cases hg
    | some k =>
      simp only []
      rw [linearise_go_acc]
      simp only [List.reverse_cons, List.reverse_nil, List.nil_append, List.singleton_append]
      have hmem := List.mem_of_getElem? hg
      simp only [Region.ready, List.mem_filter, List.mem_range, Bool.and_eq_true, Bool.not_eq_true'] at hmem
      obtain ⟨hk, hun, _⟩ := hmem
      by_cases e : i = k
      · exact e ▸ List.mem_cons_self
      · refine List.mem_cons_of_mem _ (go_all htopo fuel _ (listed.setIfInBounds k true) (by simpa using hs) ?_ i hi ?_)
        · have hsub : ((List.range ops.size).filter fun j => !(listed.setIfInBounds k true).getD j true).length < ((List.range ops.size).filter fun j => !listed.getD j true).length := by
            have hperm : ((List.range ops.size).filter fun j => !(listed.setIfInBounds k true).getD j true) = ((List.range ops.size).filter fun j => !listed.getD j true).erase k := by
              rw [List.Nodup.erase_eq_filter ((List.nodup_range).filter _)]
              rw [List.filter_filter]
              apply List.filter_congr
              intro j _
              by_cases hj : j = k
              · subst hj
                have : j < listed.size := by omega
                simp [Array.getD_eq_getD_getElem?, this]
              · have : (j != k) = true := by simpa using hj
                simp [Array.getD_eq_getD_getElem?, Array.getElem?_setIfInBounds_ne (Ne.symm hj), this]
            rw [hperm]
            have hin : k ∈ (List.range ops.size).filter fun j => !listed.getD j true := List.mem_filter.2 ⟨List.mem_range.2 hk, by simp [hun]⟩
            rw [List.length_erase_of_mem hin]
            have := List.length_pos_of_mem hin
            omega
          omega
        · simpa [Array.getD_eq_getD_getElem?, Array.getElem?_setIfInBounds_ne (Ne.symm e)] using hu

theorem linearise_ok (htopo : topoOk ops = true) (t : Nat) :
    (Region.linearise .any ops t).Perm (List.range ops.size) ∧ (Region.linearise .any ops t).Nodup ∧ (Region.linearise .any ops t).Pairwise (fun a b => ¬ Direct ops b a) := by
  have hs : (Array.replicate ops.size false).size = ops.size := by simp
  obtain ⟨g1, g2, g3, _⟩ := go_spec ops ops.size t (Array.replicate ops.size false) hs
  have hall := go_all htopo ops.size t (Array.replicate ops.size false) hs (by
    refine Nat.le_trans (List.length_filter_le _ _) ?_
    simp)
  refine ⟨?_, g2, g3⟩
  refine (List.perm_ext_iff_of_nodup g2 List.nodup_range).2 fun i => ⟨fun h => List.mem_range.2 (g1 i h).1, fun h => hall i (List.mem_range.1 h) ?_⟩
  have := List.mem_range.1 h
  simp [Array.getD_eq_getD_getElem?, this]

theorem draw_same {M : List Nat} (h : drawOk pf M ops = true) (base t : Nat) (hbase : pf oMaskOn = 1 ∨ pf oFlOn = 1 → pf oMask ≤ base) (s : St) : evL I C pf ops base (Region.linearise .any ops t) s = evL I C pf ops base (List.range ops.size) s := by
  simp only [drawOk, Bool.and_eq_true] at h
  obtain ⟨⟨htopo, hmask⟩, hpair⟩ := h
  obtain ⟨hperm, hnd, hpw⟩ := linearise_ok htopo t
  generalize hL : Region.linearise .any ops t = L at *
  refine evL_sorted base _ _ (List.pairwise_lt_range) hperm ?_ s
  have hmemL : ∀ i, i ∈ L ↔ i < ops.size := fun i => by rw [hperm.mem_iff, List.mem_range]
  have hpos : ∀ a b, a ∈ L → b ∈ L → L.idxOf a < L.idxOf b → ¬ Direct ops b a := by
    intro a b ha hb hlt
    have h1 := List.pairwise_iff_getElem.1 hpw (L.idxOf a) (L.idxOf b) (List.idxOf_lt_length_iff.2 ha) (List.idxOf_lt_length_iff.2 hb) hlt
    simpa using h1
  -- what the masks say
  have hbef : ∀ n a b, a < n → a < ops.size → b < a → (M.getD a 0).testBit b = true → L.idxOf b < L.idxOf a := by
    intro n
    induction n with
    | zero => intro a b h; omega
    | succ n ih =>
      intro a b han ha hba htb
      have h1 := List.all_eq_true.1 (List.all_eq_true.1 hmask a (List.mem_range.2 ha)) b (List.mem_range.2 hba)
      have hget : ops[a]? = some ops[a] := by simp [ha]
      simp only [htb, Bool.not_true, Bool.false_or, hget, Option.map_some, Option.getD_some] at h1
      obtain ⟨e, he, h2⟩ := Array.any_eq_true'.1 h1
      simp only [Bool.and_eq_true, Bool.or_eq_true, beq_iff_eq] at h2
      obtain ⟨hb, h2⟩ := h2
      have hon : e.on < a := by
        have h3 := List.all_eq_true.1 htopo a (List.mem_range.2 ha)
        rw [hget] at h3
        simp only [Option.map_some, Option.getD_some] at h3
        have h4 := Array.all_eq_true_iff_forall_mem.1 h3 e he
        simpa [hb] using h4
      have hd : Direct ops e.on a := ⟨_, hget, e, he, hb, rfl⟩
      have hlt : L.idxOf e.on < L.idxOf a := by
        have hne : L.idxOf e.on ≠ L.idxOf a := by
          intro h5
          have h6 : e.on ∈ L := (hmemL _).2 (by omega)
          have h7 : a ∈ L := (hmemL _).2 ha
          have h8 := List.getElem_idxOf (List.idxOf_lt_length_iff.2 h6)
          have h9 := List.getElem_idxOf (List.idxOf_lt_length_iff.2 h7)
          have : e.on = a := by
            rw [← h8, ← h9]
            congr 1
          omega
        have := hpos a e.on ((hmemL _).2 ha) ((hmemL _).2 (by omega))
        by_cases h5 : L.idxOf a < L.idxOf e.on
        · exact absurd hd (this h5)
        · omega
      rcases h2 with h2 | h2
      · rw [← h2]; exact hlt
      · simp only [Bool.and_eq_true, decide_eq_true_eq] at h2
        exact Nat.lt_trans (ih e.on b (by omega) (by omega) h2.1 h2.2) hlt
  refine List.pairwise_iff_getElem.2 fun i j hi hj hij hlt => ?_
  have ha : L[i] < ops.size := (hmemL _).1 (List.getElem_mem _)
  have h1 := List.all_eq_true.1 (List.all_eq_true.1 hpair L[i] (List.mem_range.2 ha)) L[j] (List.mem_range.2 hlt)
  have hb : L[j] < ops.size := by omega
  have g1 : ops[L[j]]? = some ops[L[j]] := by simp [hb]
  have g2 : ops[L[i]]? = some ops[L[i]] := by simp [ha]
  simp only [g1, g2, Bool.or_eq_true] at h1
  rcases h1 with h1 | h1
  · exfalso
    have h2 := hbef (L[i] + 1) L[i] L[j] (by omega) ha hlt h1
    have e1 : L.idxOf L[i] = i := hnd.idxOf_getElem i hi
    have e2 : L.idxOf L[j] = j := hnd.idxOf_getElem j hj
    omega
  · exact comm_of hbase g1 g2 h1
/-- Where a region's numbers begin does not matter to what may be drawn. -/
theorem atBase_ne {b f : Nat} (h : f ≠ oMask) : atBase pf b f = pf f := by
  unfold atBase
  split
  · exact if_neg h
  · rfl
theorem opCls_base (b : Nat) (op : Op) : opCls (atBase pf b) op = opCls pf op := by
  cases op
  case load t x => simp only [opCls, atBase_ne (show oStrict ≠ oMask by decide)]
  case box t x => simp only [opCls, atBase_ne (show oBox t ≠ oMask by unfold oBox oMask; omega)]
  case call c =>
    obtain ⟨callee, args, tys⟩ := c
    simp only [opCls]
    split
    · rfl
    · rfl
    · rfl
    · split
      · rfl
      · rename_i h
        rw [atBase_ne h]
    · rfl
  all_goals rfl
theorem indep_base (b : Nat) (x y : Oper) : indep (atBase pf b) ops x y = indep pf ops x y := by
  have h1 : ∀ t, atBase pf b (oHi t) = pf (oHi t) := fun t => atBase_ne (by unfold oHi oMask; omega)
  have h2 : ∀ op, hiW (atBase pf b) op = hiW pf op := fun op => by
    cases op
    case call c =>
      obtain ⟨callee, args, tys⟩ := c
      simp only [hiW]
      split
      · rename_i f
        by_cases hf : f = oMask
        · subst hf; simp
        · rw [atBase_ne hf]
      · rfl
    all_goals simp only [hiW, h1]
  have h3 : ∀ op, loSt (atBase pf b) op = loSt pf op := fun op => by cases op <;> simp only [loSt, h1]
  have h4 : ∀ op, hiSt (atBase pf b) op = hiSt pf op := fun op => by cases op <;> simp only [hiSt, h1]
  have h5 : ∀ op, isC4 (atBase pf b) op = isC4 pf op := fun op => by
    cases op
    case call c =>
      obtain ⟨callee, args, tys⟩ := c
      simp only [isC4]
      split
      · rename_i f
        by_cases hf : f = oMask
        · subst hf; simp
        · rw [atBase_ne hf]
      · rfl
    all_goals rfl
  simp only [indep, opCls_base, h2, h3, h4, h5, atBase_ne (show oMaskOn ≠ oMask by decide), atBase_ne (show oFlOn ≠ oMask by decide), atBase_ne (show oFlS ≠ oMask by decide)]
theorem drawOk_base {M : List Nat} (b : Nat) : drawOk (atBase pf b) M ops = drawOk pf M ops := by
  simp only [drawOk, pairsOk, indep_base]
theorem atBase_le (b : Nat) (h : atBase pf b oMaskOn = 1 ∨ atBase pf b oFlOn = 1) : atBase pf b oMask ≤ b := by
  rw [atBase_ne (show oMaskOn ≠ oMask by decide), atBase_ne (show oFlOn ≠ oMask by decide)] at h
  unfold atBase
  rw [if_pos h]
  show (if oMask = oMask then _ else _) ≤ b
  rw [if_pos rfl]
  split
  · exact Nat.le_refl _
  · split
    · exact Nat.min_le_left _ _
    · exact Nat.le_refl _
end
end Go.Proofs.YtegbkihgnofkfaaGreatDoor.Ev
