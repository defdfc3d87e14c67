/-
The engine, texts Ev10 to EvA: an evaluator of code over values without memory, and that its answers are what calls give.
-/
import Derived.Test.YtibjofpgbcbloaaEvX1
/-
The engine, part 10: append.
-/
namespace Go.Proofs.Ytibjofpgbcbloaa.Ev
section
open Go
set_option linter.unusedVariables false
set_option linter.unusedSimpArgs false
variable {P : Program} {I : Tab} {w : World} {g : G} {σ : Sto} {e : Nat → AV} {a : Act}

theorem Adv.trans {key : Nat} {w1 w2 : World} {g1 g2 : G} {σ1 σ2 : Sto} (h : Adv w g σ key w1 g1 σ1) (k : Adv w1 g1 σ1 key w2 g2 σ2) : Adv w g σ key w2 g2 σ2 := by
  refine ⟨h.onto.trans k.onto, k.inv, k.os.trans h.os, k.tape.trans h.tape, k.output.trans h.output, Nat.le_trans h.size k.size, fun b hb hne => ?_, fun b hb => ?_, fun i s b hi hb => ?_, fun i hi => ?_⟩
  · refine (k.keep b (Nat.lt_of_lt_of_le hb h.size) fun i s hi hbl => ?_).trans (h.keep b hb hne)
    rcases h.live i s b hi hbl with h1 | ⟨j, t, h1, h2⟩
    · omega
    · exact hne j t h1 h2
  · rcases k.newV b hb with h1 | h1 | ⟨i, s, h1, h2⟩
    · exact h.newV b h1
    · exact .inr (.inl (Nat.le_trans h.size h1))
    · exact (h.live i s b h1 h2).elim (fun h3 => .inr (.inl h3)) fun ⟨j, t, h3, h4⟩ => .inr (.inr ⟨j, t, h3, h4⟩)
  · rcases k.live i s b hi hb with h1 | ⟨j, t, h1, h2⟩
    · exact .inl (Nat.le_trans h.size h1)
    · exact h.live j t b h1 h2
  · rcases k.newD i hi with h1 | h1
    · exact h.newD i h1
    · exact .inr h1

/-- A number of the store is let go. -/
theorem Adv.kill {key : Nat} {w1 : World} {g1 : G} {σ1 : Sto} (h : Adv w g σ key w1 g1 σ1) (id : Nat) : Adv w g σ key w1 g1 (upd σ1 id none) := by
  have hsub : ∀ i s, upd σ1 id none i = some s → σ1 i = some s := by
    intro i s hi
    by_cases e : i = id
    · simp [upd, e] at hi
    · simpa [upd, e] using hi
  exact ⟨h.onto, ⟨h.inv.vlt, fun i s hi => h.inv.lies i s (hsub i s hi), fun i s hi => h.inv.told i s (hsub i s hi), fun i j s t b hij hi hj => h.inv.apart i j s t b hij (hsub i s hi) (hsub j t hj)⟩,
    h.os, h.tape, h.output, h.size, h.keep, h.newV, fun i s b hi => h.live i s b (hsub i s hi), h.newD⟩

theorem upd_comm (σ : Sto) {i j : Nat} (h : i ≠ j) (x y : Option Slot) : upd (upd σ i x) j y = upd (upd σ j y) i x := by
  funext k
  by_cases h1 : k = j
  · subst h1
    simp [upd, Ne.symm h]
  · by_cases h2 : k = i
    · subst h2
      simp [upd, h]
    · simp [upd, h1, h2]

/-- What lies at one number lies now at a new one. -/
theorem adv_move (hv : Inv w g σ) {key id : Nat} (hk : ¬ g.D key) {s : Slot} (hs : σ id = some s) (s' : Slot) (hl : Lies w (g.add key (g.ρ id)) key s')
    (hb : ∀ b, blockOf (g.add key (g.ρ id)) key s' = some b → blockOf g id s = some b) : Adv w g σ key w (g.add key (g.ρ id)) (upd (upd σ id none) key (some s')) := by
  have hon : Onto w g w (g.add key (g.ρ id)) := onto_add _ hk fun b _ => rfl
  have hne : id ≠ key := told_ne hv hk hs
  have hget : ∀ i t, i ≠ key → upd (upd σ id none) key (some s') i = some t → i ≠ id ∧ σ i = some t := by
    intro i t h1 h2
    simp only [upd, h1, if_false] at h2
    by_cases e : i = id
    · simp [e] at h2
    · exact ⟨e, by simpa [e] using h2⟩
  refine ⟨hon, ⟨hv.vlt, fun i t hi => ?_, fun i t hi => ?_, fun i j t u b hij hi hj hib => ?_⟩, rfl, rfl, rfl, Nat.le_refl _, fun _ _ _ => rfl, fun _ h => .inl h, fun i t b hi hib => ?_, fun i hi => ?_⟩
  · by_cases e : i = key
    · subst e
      simp only [upd, if_true, Option.some.injEq] at hi
      subst hi
      exact hl
    · obtain ⟨_, hi'⟩ := hget i t e hi
      exact (hv.lies i t hi').onto hon (hv.told i t hi') fun b hb => ⟨rfl, ((hv.lies i t hi').lt hb).2⟩
  · by_cases e : i = key
    · exact .inr e
    · exact .inl (hv.told i t (hget i t e hi).2)
  · by_cases e : i = key
    · subst e
      simp only [upd, if_true, Option.some.injEq] at hi
      subst hi
      obtain ⟨h1, hj'⟩ := hget j u (Ne.symm hij) hj
      rw [blockOf_add _ (Ne.symm hij)]
      exact hv.apart id j s u b (Ne.symm h1) hs hj' (hb b hib)
    · obtain ⟨h1, hi'⟩ := hget i t e hi
      rw [blockOf_add _ e] at hib
      by_cases e2 : j = key
      · subst e2
        simp only [upd, if_true, Option.some.injEq] at hj
        subst hj
        intro h
        exact hv.apart i id t s b h1 hi' hs hib (hb b h)
      · obtain ⟨_, hj'⟩ := hget j u e2 hj
        rw [blockOf_add _ e2]
        exact hv.apart i j t u b hij hi' hj' hib
  · by_cases e : i = key
    · subst e
      simp only [upd, if_true, Option.some.injEq] at hi
      subst hi
      exact .inr ⟨id, s, hs, hb b hib⟩
    · obtain ⟨_, hi'⟩ := hget i t e hi
      rw [blockOf_add _ e] at hib
      exact .inr ⟨i, t, hi', hib⟩
  · rcases hi with h | h
    · exact .inl h
    · exact .inr ⟨by omega, by omega⟩

theorem At.list {cs : List AV} {ad : Addr} (h : At w g cs ad) : ∃ nv : List Value, Row w g cs nv.toArray ∧ ∀ j u, nv[j]? = some u → w.cell? (ad.add j) = some u := by
  obtain ⟨us, hus⟩ := h
  refine ⟨(List.range cs.length).map us, ⟨by simp, fun j c hc => ?_⟩, fun j u hj => ?_⟩
  · have hlt : j < cs.length := (List.getElem?_eq_some_iff.1 hc).1
    exact ⟨us j, by simp [hlt], (hus j c hc).2⟩
  · simp only [List.getElem?_map] at hj
    obtain ⟨k, hk, rfl⟩ := Option.map_eq_some_iff.1 hj
    have hlt : j < cs.length := by
      have := (List.getElem?_eq_some_iff.1 hk).1
      simpa using this
    rw [List.getElem?_range hlt] at hk
    obtain rfl := Option.some.inj hk
    exact (hus j _ (List.getElem?_eq_getElem hlt)).1

theorem sliceCells_sound (hv : Inv w g σ) {y : AV} {v : Value} (hy : Rep w g y v) {sz m : Nat} {news : List AV} (h : sliceCells σ sz y = some (m, news)) (hlen : news.length = m * sz) (hsz : 0 < sz) :
    ∃ A c, ∃ nv : List Value, v = .slice A m c ∧ m ≤ c ∧ Row w g news nv.toArray ∧ (m = 0 ∨ ∃ ad, A = some ad ∧ ∀ j u, nv[j]? = some u → w.cell? (ad.add j) = some u) := by
  cases hy <;> simp only [sliceCells, reduceCtorEq] at h
  case s ex n c cs A us hn he h1 h2 =>
    simp only [Option.some.injEq, Prod.mk.injEq] at h
    obtain ⟨rfl, rfl⟩ := h
    by_cases hm : n = 0
    · subst hm
      have : cs = [] := List.eq_nil_of_length_eq_zero (by simpa using hlen)
      subst this
      exact ⟨A, c, [], rfl, hn, ⟨rfl, fun j x hj => by simp at hj⟩, .inl rfl⟩
    · have hpos : 0 < cs.length := by rw [hlen]; exact Nat.mul_pos (by omega) hsz
      obtain ⟨ad, rfl, _, _⟩ := h1 0 _ (List.getElem?_eq_getElem hpos)
      have hat : At w g cs ad := ⟨us, fun j x hj => by
        obtain ⟨ad', ha, _, hc⟩ := h1 j x hj
        obtain rfl := Option.some.inj ha
        exact ⟨hc, h2 j x hj⟩⟩
      obtain ⟨nv, hr, hc⟩ := hat.list
      exact ⟨_, c, nv, rfl, hn, hr, .inr ⟨ad, rfl, hc⟩⟩
  case w id lo n c A hD hn h0 h1 =>
    obtain ⟨s, hs, h⟩ := Option.bind_eq_some_iff.1 h
    split at h
    · rename_i hle
      simp only [Option.some.injEq, Prod.mk.injEq] at h
      obtain ⟨rfl, rfl⟩ := h
      by_cases hm : n = 0
      · subst hm
        exact ⟨A, c, [], rfl, hn, ⟨by simp, fun j x hj => by simp at hj⟩, .inl rfl⟩
      · obtain ⟨b, hA, rfl⟩ := h1 (by omega)
        have hat := (hv.at_ hs hA).drop lo
        rw [add_lit0, Nat.zero_add] at hat
        have hat2 : At w g ((s.cells.drop lo).take (n * sz)) ⟨b, lo, none⟩ := by
          obtain ⟨us, hus⟩ := hat
          refine ⟨us, fun j x hj => hus j x ?_⟩
          rw [List.getElem?_take] at hj
          split at hj
          · exact hj
          · cases hj
        obtain ⟨nv, hr, hc⟩ := hat2.list
        exact ⟨_, c, nv, rfl, hn, hr, .inr ⟨_, rfl, hc⟩⟩
    · cases h

theorem append_nothing {t E ty : TypeId} {i : TypeInfo} (ht : P.underlying t = some (.slice E)) (hi : P.info? E = some i) (A A' : Option Addr) (n c c' : Nat) (hnc : n ≤ c) :
    (Builtin.append_ #[t, t] ty #[.slice A n c, .slice A' 0 c']).run P w = .ok (.slice A n c) w := by
  cases A <;> cases A' <;> simp [Builtin.append_, run_underlying ht, Go.sizeOf, typeInfo, hi, Builtin.lenOf, Builtin.firstCells, loadCells, loadCellsFrom, hnc, storeCells]

theorem append_grows (hI : I.Ok P) {t E ty : TypeId} {sz0 by0 : Nat} {zz : List Value} {ei : TI} (ht : I t = some ⟨.sl E, sz0, by0, zz⟩) (hE : I E = some ei) (A : Option Addr) (n c m c' : Nat) (ad' : Addr) (olds news : List Value)
    (hA0 : A = none → n = 0 ∧ c = 0) (holds : ∀ ad, A = some ad → ∀ j u, olds[j]? = some u → w.cell? (ad.add j) = some u) (hol : olds.length = n * ei.sz)
    (hnews : ∀ j u, news[j]? = some u → w.cell? (ad'.add j) = some u) (hnl : news.length = m * ei.sz) (hm : 0 < m) (hgrow : c < n + m) (hmax : n + m ≤ maxLen) (hby : (n + m) * ei.by_ ≤ 140737488355328) :
    ∃ cap' Z, (Builtin.append_ #[t, t] ty #[.slice A n c, .slice (some ad') m c']).run P w = .ok (.slice (some ⟨w.heap.size, 0, none⟩) (n + m) cap') (w.drew.alloc (.cells (olds ++ news ++ Z).toArray E)) ∧
      n + m ≤ cap' ∧ cap' ≤ maxLen ∧ (olds ++ news ++ Z).length = cap' * ei.sz := by
  have hk := (hI t _ ht).k
  simp only [TK.tie] at hk
  obtain ⟨i, z, hi, h2, h3, h4, h5⟩ := (hI E ei hE).info
  have hzs : z.cells.size = ei.sz := by rw [← Array.length_toList, h5, (hI E ei hE).len]
  have h63 : ((n + m : Nat) : Int) ≤ 9223372036854775807 := by unfold maxLen at hmax; omega
  have hzl : ∀ k, (Builtin.zeroCells z.cells k).size = k * ei.sz := by intro k; simp [Builtin.zeroCells, hzs]
  cases A with
  | none =>
    obtain ⟨rfl, rfl⟩ := hA0 rfl
    have ho : olds = [] := List.eq_nil_of_length_eq_zero (by simpa using hol)
    subst ho
    have hfit := growslice_fits (old := 0) (need := m) (bytes := i.bytes) hm (by rw [h3]; simpa using hby)
    rw [nextslicecap_zero hm] at hfit
    have := run_append_nil (P := P) w t ty E i z hk hi h4 ad' m c' news (by rw [h2]; exact hnl) hnews hm (by simpa using h63) hfit
    refine ⟨grownCap w m 0 E, (Builtin.zeroCells z.cells (grownCap w m 0 E - m)).toList, ?_, ?_, ?_, ?_⟩
    · have he : news.toArray ++ Builtin.zeroCells z.cells (grownCap w m 0 E - m) = ([] ++ news ++ (Builtin.zeroCells z.cells (grownCap w m 0 E - m)).toList).toArray := by apply Array.ext'; simp
      rw [this, he, Nat.zero_add]
    · have := grownCap_ge w m 0 E
      omega
    · exact grownCap_le_maxLen w m 0 E (by omega)
    · have h0 := grownCap_ge w m 0 E
      simp only [List.nil_append, List.length_append, Array.length_toList, hzl, hnl, ← Nat.add_mul]
      congr 1
      omega
  | some ad =>
    have hfit := growslice_fits (old := c) (need := n + m) (bytes := i.bytes) hgrow (by rw [h3]; exact hby)
    have := run_append_grow (P := P) w t ty E i z hk hi h4 ad n c olds (by rw [h2]; exact hol) (holds ad rfl) ad' m c' news (by rw [h2]; exact hnl) hnews hgrow h63 hfit
    refine ⟨grownCap w (n + m) c E, (Builtin.zeroCells z.cells (grownCap w (n + m) c E - (n + m))).toList, ?_, ?_, ?_, ?_⟩
    · have he : olds.toArray ++ news.toArray ++ Builtin.zeroCells z.cells (grownCap w (n + m) c E - (n + m)) = (olds ++ news ++ (Builtin.zeroCells z.cells (grownCap w (n + m) c E - (n + m))).toList).toArray := by apply Array.ext'; simp
      rw [this, he]
    · exact grownCap_ge w (n + m) c E
    · exact grownCap_le_maxLen w (n + m) c E hmax
    · have h0 := grownCap_ge w (n + m) c E
      simp only [List.length_append, Array.length_toList, hzl, hnl, hol, ← Nat.add_mul]
      congr 1
      omega

/-- A new row, which append has made. -/
theorem adv_grown (hv : Inv w g σ) {key : Nat} (hk : ¬ g.D key) (E sz n cap : Nat) (hsz : 0 < sz) (cs : List AV) (us : List Value) (hrow : Row w g cs us.toArray) (hcl : cs.length = n * sz) (Z : List Value) (hn : n ≤ cap) (hmax : cap ≤ maxLen) (hl : (us ++ Z).length = cap * sz) :
    Adv w g σ key (w.drew.alloc (.cells (us ++ Z).toArray E)) (g.add key ⟨some ⟨w.heap.size, 0, none⟩, cap⟩) (upd σ key (some (.row E sz n cs))) := by
  have hkeep : ∀ b, b < w.heap.size → (w.drew.alloc (.cells (us ++ Z).toArray E)).heap[b]? = w.heap[b]? := fun b hb => blk_old w.drew _ hb
  have hnew : (w.drew.alloc (.cells (us ++ Z).toArray E)).heap[w.heap.size]? = some (.cells (us ++ Z).toArray E) := blk_new w.drew _
  have hon : Onto w g (w.drew.alloc (.cells (us ++ Z).toArray E)) (g.add key ⟨some ⟨w.heap.size, 0, none⟩, cap⟩) := onto_add _ hk fun b hb => hkeep b (hv.vlt b hb)
  refine adv_new hv hk _ _ _ rfl rfl rfl (by simp) hkeep ?_ ?_
  · refine ⟨hcl, by simpa [G.add] using hn, by simpa [G.add] using hmax, hsz, .inr ⟨w.heap.size, _, by simp [G.add], hnew, by simpa [G.add] using hl, ?_, fun h => by have := hv.vlt _ h; omega⟩⟩
    refine Cells.onto hon fun j c hc => ?_
    obtain ⟨u, h1, h2⟩ := hrow.2 j c hc
    refine ⟨u, ?_, h2⟩
    simp only [List.getElem?_toArray] at h1 ⊢
    rw [List.getElem?_append_left (List.getElem?_eq_some_iff.1 h1).1]
    exact h1
  · intro b hb
    simp only [blockOf, G.add, if_true] at hb
    split at hb
    · cases hb
    · simp at hb
      omega
end
end Go.Proofs.Ytibjofpgbcbloaa.Ev
/-
The engine, part 11: builtins, conversions.
-/
namespace Go.Proofs.Ytibjofpgbcbloaa.Ev
section
open Go
set_option linter.unusedVariables false
set_option linter.unusedSimpArgs false
variable {P : Program} {I : Tab} {w : World} {g : G} {σ : Sto} {e : Nat → AV} {a : Act}

theorem append_s_sound (hI : I.Ok P) (hv : Inv w g σ) {key : Nat} (hk : ¬ g.D key) {t E ty : TypeId} {sz0 by0 : Nat} {zz : List Value} {ei : TI} (ht : I t = some ⟨.sl E, sz0, by0, zz⟩) (hE : I E = some ei)
    {n m : Nat} {cs news : List AV} {y : AV} {u v : Value} (hx : Rep w g (.s true n cs) u) (hy : Rep w g y v) (hsc : sliceCells σ ei.sz y = some (m, news)) (hsz : 0 < ei.sz) (hnl : news.length = m * ei.sz)
    (hcl : cs.length = n * ei.sz) (hmax : n + m ≤ maxLen) (hby : (n + m) * ei.by_ ≤ 140737488355328) :
    (m = 0 ∧ 0 < n → Gives P (Builtin.append_ #[t, t] ty #[u, v]) w g σ key (.s true n cs) σ) ∧
    (¬ (m = 0 ∧ 0 < n) → Gives P (Builtin.append_ #[t, t] ty #[u, v]) w g σ key (.w key 0 (n + m)) (upd σ key (some (.row E ei.sz (n + m) (cs ++ news))))) := by
  have hkk := (hI t _ ht).k
  simp only [TK.tie] at hkk
  obtain ⟨i, z, hi, _⟩ := (hI E ei hE).info
  obtain ⟨A', c', nv, rfl, hmc, hnr, hnc⟩ := sliceCells_sound hv hy hsc hnl hsz
  have hx' := hx
  cases hx with
  | s _ _ c _ A us hn he h1 h2 =>
    obtain rfl := he rfl
    refine ⟨fun hm => ?_, fun hm => ?_⟩
    · obtain ⟨rfl, hpos⟩ := hm
      exact Gives.same hv key (append_nothing hkk hi A A' c c c' (Nat.le_refl _)) hx'
    · by_cases hm0 : m = 0
      · subst hm0
        have hc0 : c = 0 := by omega
        subst hc0
        have hcs : cs = [] := List.eq_nil_of_length_eq_zero (by simpa using hcl)
        have hnn : news = [] := List.eq_nil_of_length_eq_zero (by simpa using hnl)
        subst hcs hnn
        refine ⟨.slice A 0 0, w, g.add key ⟨A, 0⟩, append_nothing hkk hi A A' 0 0 c' (Nat.le_refl _), ?_, ?_⟩
        · refine adv_new hv hk _ _ _ rfl rfl rfl (Nat.le_refl _) (fun _ _ => rfl) ?_ ?_
          · exact ⟨by simp, by simp, by simp [G.add], hsz, .inl (by simp [G.add])⟩
          · intro b hb
            simp [blockOf, G.add] at hb
        · exact .w _ _ _ _ _ (.inr rfl) (Nat.le_refl _) (fun _ => by simp [G.add]) (fun h => by omega)
      · rcases hnc with h0 | ⟨ad', rfl, hcell⟩
        · exact absurd h0 hm0
        have hA : ∃ olds : List Value, Row w g cs olds.toArray ∧ ∀ ad, A = some ad → ∀ j u, olds[j]? = some u → w.cell? (ad.add j) = some u := by
          refine ⟨(List.range cs.length).map us, ⟨by simp, fun j x hj => ?_⟩, fun ad hAd j u hj => ?_⟩
          · have hlt : j < cs.length := (List.getElem?_eq_some_iff.1 hj).1
            exact ⟨us j, by simp [hlt], h2 j x hj⟩
          · simp only [List.getElem?_map] at hj
            obtain ⟨k, hk', rfl⟩ := Option.map_eq_some_iff.1 hj
            have hlt : j < cs.length := by
              have := (List.getElem?_eq_some_iff.1 hk').1
              simpa using this
            rw [List.getElem?_range hlt] at hk'
            obtain rfl := Option.some.inj hk'
            obtain ⟨ad2, e2, _, hc⟩ := h1 j _ (List.getElem?_eq_getElem hlt)
            rw [hAd] at e2
            obtain rfl := Option.some.inj e2
            exact hc
        obtain ⟨olds, hor, hoc⟩ := hA
        have hA0 : A = none → c = 0 ∧ c = 0 := by
          rintro rfl
          by_cases hc : c = 0
          · exact ⟨hc, hc⟩
          · exfalso
            have hpos : 0 < cs.length := by rw [hcl]; exact Nat.mul_pos (by omega) hsz
            obtain ⟨ad2, e2, _⟩ := h1 0 _ (List.getElem?_eq_getElem hpos)
            cases e2
        have hol : olds.length = c * ei.sz := by
          have := hor.1
          simp only [List.size_toArray] at this
          omega
        have hnvl : nv.length = m * ei.sz := by
          have := hnr.1
          simp only [List.size_toArray] at this
          omega
        obtain ⟨cap', Z, hrun, hc1, hc2, hc3⟩ := append_grows (ty := ty) hI ht hE A c c m c' ad' olds nv hA0 hoc hol hcell hnvl (by omega) (by omega) hmax hby
        refine ⟨_, _, _, hrun, adv_grown hv hk E ei.sz (c + m) cap' hsz (cs ++ news) (olds ++ nv) (hor.append hnr) (by simp [hcl, hnl, Nat.add_mul]) Z hc1 hc2 hc3, ?_⟩
        exact .w _ _ _ _ _ (.inr rfl) hc1 (fun _ => by simp [G.add]) (fun _ => ⟨w.heap.size, by simp [G.add], rfl⟩)

theorem append_w_sound (hI : I.Ok P) (hv : Inv w g σ) {key : Nat} (hk : ¬ g.D key) {t E ty : TypeId} {sz0 by0 : Nat} {zz : List Value} {ei : TI} (ht : I t = some ⟨.sl E, sz0, by0, zz⟩) (hE : I E = some ei)
    {id n n0 m : Nat} {cs news : List AV} {y : AV} {u v : Value} (hx : Rep w g (.w id 0 n) u) (hs : σ id = some (.row E ei.sz n0 cs)) (hy : Rep w g y v) (hsc : sliceCells σ ei.sz y = some (m, news)) (hsz : 0 < ei.sz) (hnl : news.length = m * ei.sz)
    (hok : news.all leafOk = true) (hcl : n * ei.sz ≤ cs.length) (hmax : n + m ≤ maxLen) (hby : (n + m) * ei.by_ ≤ 140737488355328) :
    Gives P (Builtin.append_ #[t, t] ty #[u, v]) w g σ key (.w key 0 (n + m)) (upd (upd σ id none) key (some (.row E ei.sz (n + m) (cs.take (n * ei.sz) ++ news)))) := by
  have hkk := (hI t _ ht).k
  simp only [TK.tie] at hkk
  obtain ⟨i, z, hi, hi2, _⟩ := (hI E ei hE).info
  obtain ⟨A', c', nv, rfl, hmc, hnr, hnc⟩ := sliceCells_sound hv hy hsc hnl hsz
  have hne : id ≠ key := told_ne hv hk hs
  have htl : (cs.take (n * ei.sz)).length = n * ei.sz := by simp; omega
  have hnvl : nv.length = m * ei.sz := by
    have := hnr.1
    simp only [List.size_toArray] at this
    omega
  cases hx with
  | w _ _ _ c A hD hnc' h0 h1 =>
    obtain ⟨hA, hcap⟩ := h0 rfl
    obtain ⟨k1, k2, k3, k4, k5⟩ := hv.lies id _ hs
    have hn0 : n ≤ n0 := by
      rw [k1] at hcl
      exact Nat.le_of_mul_le_mul_right hcl hsz
    by_cases hm0 : m = 0
    · subst hm0
      have hnn : news = [] := List.eq_nil_of_length_eq_zero (by simpa using hnl)
      subst hnn
      refine ⟨.slice A n c, w, g.add key (g.ρ id), append_nothing hkk hi A A' n c c' hnc', ?_, ?_⟩
      · refine adv_move hv hk hs _ ?_ ?_
        · refine ⟨by simpa using htl, by simp [G.add]; omega, by simpa [G.add] using k3, hsz, ?_⟩
          rcases k5 with h | ⟨b, us, e1, e2, e3, e4, e5⟩
          · exact .inl (by simpa [G.add] using h)
          · refine .inr ⟨b, us, by simpa [G.add] using e1, e2, by simpa [G.add] using e3, ?_, e5⟩
            refine Cells.onto (onto_add _ hk fun b _ => rfl) fun j x hj => e4 j x ?_
            simp only [List.append_nil, List.getElem?_take] at hj
            split at hj
            · exact hj
            · cases hj
        · intro b hb
          simpa [blockOf, G.add] using hb
      · exact .w _ _ _ _ _ (.inr rfl) (by simpa using hnc') (fun _ => by simp [G.add, hA, hcap]) (fun h => by
          obtain ⟨b, e1, e2⟩ := h1 (by omega)
          exact ⟨b, by simpa [G.add] using e1, e2⟩)
    · rcases hnc with h | ⟨ad', rfl, hcell⟩
      · exact absurd h hm0
      -- the cells of the row, as they lie
      have hrow : ∃ olds : List Value, Row w g (cs.take (n * ei.sz)) olds.toArray ∧ (∀ ad, A = some ad → ∀ j u, olds[j]? = some u → w.cell? (ad.add j) = some u) ∧ (∀ us b, (g.ρ id).A = some ⟨b, 0, none⟩ → w.heap[b]? = some (.cells us E (0, 0)) → (g.ρ id).cap ≠ 0 → olds = us.toList.take (n * ei.sz)) := by
        rcases k5 with h | ⟨b, us, e1, e2, e3, e4, e5⟩
        · have hn : n = 0 := by omega
          subst hn
          exact ⟨[], by refine ⟨by simp, fun j x hj => by simp at hj⟩, fun ad _ j u hj => by simp at hj, fun _ _ _ _ h' => absurd h h'⟩
        · have hcu : cs.length ≤ us.size := by
            rw [k1, e3]
            exact Nat.mul_le_mul_right _ k2
          refine ⟨us.toList.take (n * ei.sz), ⟨by simp; omega, fun j x hj => ?_⟩, fun ad hAd j u hj => ?_, fun us' b' f1 f2 _ => ?_⟩
          · rw [List.getElem?_take] at hj
            split at hj
            · rename_i hlt
              obtain ⟨u, g1, g2⟩ := e4 j x hj
              exact ⟨u, by rw [List.getElem?_toArray, List.getElem?_take]; simpa [hlt] using g1, g2⟩
            · cases hj
          · rw [hA, e1] at hAd
            obtain rfl := Option.some.inj hAd
            rw [add_lit0, cell_at w b _ us E _ e2, Nat.zero_add]
            rw [List.getElem?_take] at hj
            split at hj
            · simpa using hj
            · cases hj
          · rw [e1] at f1
            simp only [Option.some.injEq, Addr.mk.injEq] at f1
            obtain ⟨rfl, -, -⟩ := f1
            rw [e2] at f2
            simp only [Option.some.injEq, Obj.cells.injEq] at f2
            obtain ⟨rfl, -, -⟩ := f2
            rfl
      obtain ⟨olds, hor, hoc, hoe⟩ := hrow
      have hol : olds.length = n * ei.sz := by
        have := hor.1
        simp only [List.size_toArray] at this
        omega
      by_cases hroom : n + m ≤ c
      · -- in place
        have hc0 : (g.ρ id).cap ≠ 0 := by omega
        rcases k5 with h | ⟨b, us, e1, e2, e3, e4, e5⟩
        · exact absurd h hc0
        have hfit : n * i.size + nv.length ≤ us.size := by
          rw [hi2, hnvl, e3, ← Nat.add_mul]
          exact Nat.mul_le_mul_right _ (by omega)
        have hone : ∀ v ∈ nv, v.oneCell' = true := by
          have := leaves_one hnr hok
          simpa using this
        have hrun := run_append_room (P := P) w t ty E i hkk hi b n c us e2 ad' m c' nv (by rw [hi2]; exact hnvl) hcell hone hroom hfit
        rw [hi2] at hrun
        have hold := hoe us b e1 e2 hc0
        have hsize : (us.toList.take (n * ei.sz) ++ nv ++ us.toList.drop (n * ei.sz + nv.length)).length = (g.ρ id).cap * ei.sz := by
          simp only [List.length_append, List.length_take, List.length_drop, Array.length_toList, e3]
          rw [hi2] at hfit
          rw [← e3]
          omega
        have honb := onto_setRow hv e5 (us.toList.take (n * ei.sz) ++ nv ++ us.toList.drop (n * ei.sz + nv.length)).toArray
        have hcells : Cells (w.setRow b (us.toList.take (n * ei.sz) ++ nv ++ us.toList.drop (n * ei.sz + nv.length)).toArray) g (cs.take (n * ei.sz) ++ news) (us.toList.take (n * ei.sz) ++ nv ++ us.toList.drop (n * ei.sz + nv.length)).toArray := by
          refine Cells.onto honb fun j x hj => ?_
          have hr2 := hor.append hnr
          rw [hold] at hr2
          obtain ⟨u, g1, g2⟩ := hr2.2 j x hj
          refine ⟨u, ?_, g2⟩
          simp only [List.getElem?_toArray] at g1 ⊢
          rw [List.getElem?_append_left (List.getElem?_eq_some_iff.1 g1).1]
          exact g1
        have hheap := setRow_heap w b us (us.toList.take (n * ei.sz) ++ nv ++ us.toList.drop (n * ei.sz + nv.length)).toArray E (0, 0) e2
        have hlen2 : (cs.take (n * ei.sz) ++ news).length = (n + m) * ei.sz := by rw [List.length_append, htl, hnl, Nat.add_mul]
        have hb0 : blockOf g id (.row E ei.sz n0 cs) = some b := by simp [blockOf, hc0, e1]
        have hb1 : blockOf g id (.row E ei.sz (n + m) (cs.take (n * ei.sz) ++ news)) = some b := by simp [blockOf, hc0, e1]
        have hl1 : Lies (w.setRow b (us.toList.take (n * ei.sz) ++ nv ++ us.toList.drop (n * ei.sz + nv.length)).toArray) g id (.row E ei.sz (n + m) (cs.take (n * ei.sz) ++ news)) :=
          ⟨hlen2, by omega, k3, hsz, .inr ⟨b, _, e1, hheap, by simpa using hsize, hcells, e5⟩⟩
        have hadv := adv_set hv key hs hb0 _ hl1 hb1
        have hs1 : (upd σ id (some (.row E ei.sz (n + m) (cs.take (n * ei.sz) ++ news)))) id = some (.row E ei.sz (n + m) (cs.take (n * ei.sz) ++ news)) := by simp [upd]
        have hadv2 := adv_move hadv.inv hk hs1 (.row E ei.sz (n + m) (cs.take (n * ei.sz) ++ news)) ?_ ?_
        · have hcomb := hadv.trans hadv2
          have hupd : upd (upd (upd σ id (some (.row E ei.sz (n + m) (cs.take (n * ei.sz) ++ news)))) id none) key (some (.row E ei.sz (n + m) (cs.take (n * ei.sz) ++ news))) = upd (upd σ id none) key (some (.row E ei.sz (n + m) (cs.take (n * ei.sz) ++ news))) := by
            funext k
            simp only [upd]
            split
            · rfl
            · split <;> rfl
          rw [hupd] at hcomb
          have hAb : A = some ⟨b, 0, none⟩ := hA.trans e1
          subst hAb
          refine ⟨_, _, _, hrun, hcomb, .w _ _ _ _ _ (.inr rfl) (by omega) (fun _ => by simp [G.add, e1, hcap]) (fun _ => ⟨b, by simp [G.add, e1], rfl⟩)⟩
        · refine ⟨hlen2, by simp [G.add]; omega, by simpa [G.add] using k3, hsz, .inr ⟨b, _, by simpa [G.add] using e1, hheap, by simpa [G.add] using hsize, ?_, e5⟩⟩
          exact Cells.onto (onto_add _ hk fun b _ => rfl) hcells
        · intro b' hb'
          simpa [blockOf, G.add] using hb'
      · -- a new row
        have hA0 : A = none → n = 0 ∧ c = 0 := by
          rintro rfl
          rcases k5 with h | ⟨b, us, e1, _⟩
          · exact ⟨by omega, by omega⟩
          · rw [← hA] at e1
            cases e1
        obtain ⟨cap', Z, hrun, hc1, hc2, hc3⟩ := append_grows (ty := ty) hI ht hE A n c m c' ad' olds nv hA0 hoc hol hcell hnvl (by omega) (by omega) hmax hby
        have hadv := adv_grown hv hk E ei.sz (n + m) cap' hsz (cs.take (n * ei.sz) ++ news) (olds ++ nv) (hor.append hnr) (by rw [List.length_append, htl, hnl, Nat.add_mul]) Z hc1 hc2 hc3
        have hadv2 := hadv.kill id
        rw [← upd_comm σ hne] at hadv2
        refine ⟨_, _, _, hrun, hadv2, .w _ _ _ _ _ (.inr rfl) hc1 (fun _ => by simp [G.add]) (fun _ => ⟨w.heap.size, by simp [G.add], rfl⟩)⟩
end
end Go.Proofs.Ytibjofpgbcbloaa.Ev
/-
The engine, part 12: one operation that is no call of a function.
-/
namespace Go.Proofs.Ytibjofpgbcbloaa.Ev
section
open Go
set_option linter.unusedVariables false
set_option linter.unusedSimpArgs false
variable {P : Program} {I : Tab} {w : World} {g : G} {σ : Sto} {e : Nat → AV} {a : Act}

theorem bytesOf_spec : ∀ (cs : List AV) (l : List UInt8), bytesOf cs = some l → ∃ ns : List Int, cs = ns.map (fun n => AV.v (.int .u8 n)) ∧ l = ns.map fun n => UInt8.ofNat n.toNat
  | [], l, h => by
    simp only [bytesOf, Option.some.injEq] at h
    subst h
    exact ⟨[], rfl, rfl⟩
  | x :: cs, l, h => by
    unfold bytesOf at h
    split at h
    · rename_i h0
      cases h0
    · rename_i n cs' h0
      simp only [List.cons.injEq] at h0
      obtain ⟨rfl, rfl⟩ := h0
      obtain ⟨l', h1, rfl⟩ := Option.map_eq_some_iff.1 h
      obtain ⟨ns, rfl, rfl⟩ := bytesOf_spec _ _ h1
      exact ⟨n :: ns, rfl, rfl⟩
    · cases h

theorem push_fold : ∀ (ns : List Int) (r : ByteArray), ns.foldl (fun r n => r.push (UInt8.ofNat n.toNat)) r = ⟨r.data ++ (ns.map fun n => UInt8.ofNat n.toNat).toArray⟩
  | [], r => by simp
  | n :: ns, r => by
    rw [List.foldl_cons, push_fold ns]
    simp [ByteArray.push, Array.append_assoc]

theorem conv_sound (hI : I.Ok P) {s d : TypeId} {si di : TI} (hs : I s = some si) (hd : I d = some di) {x z : AV} {u : Value} (hx : Rep w g x u) (h : conv I si di x = some z) :
    ∃ r, (convert s d u).run P w = .ok r w ∧ Rep w g z r := by
  have hks := (hI s si hs).k
  have hkd := (hI d di hd).k
  have hus : ∃ q, P.underlying s = some q := by
    cases hk : si.k <;> rw [hk] at hks <;> simp only [TK.tie] at hks
    case st => obtain ⟨F, hF, _⟩ := hks; exact ⟨_, hF⟩
    all_goals exact ⟨_, hks⟩
  obtain ⟨q, hq⟩ := hus
  unfold conv at h
  split at h
  · obtain rfl := rep_v_inv hx
    split at h
    · rename_i hk
      rw [hk] at hkd
      simp only [TK.tie] at hkd
      obtain rfl := Option.some.inj h
      refine ⟨_, ?_, .v _⟩
      simp [convert, run_underlying hq, run_underlying hkd, Conv.intToInt]
    · cases h
  · obtain rfl := rep_v_inv hx
    split at h
    · rename_i h1 h2
      rw [h1] at hks
      rw [h2] at hkd
      simp only [TK.tie] at hks hkd
      obtain rfl := Option.some.inj h
      exact ⟨_, by simp [convert, run_underlying hks, run_underlying hkd], .v _⟩
    · cases h
  · rename_i ex n cs
    split at h
    · rename_i E h1 h2
      rw [h1] at hks
      rw [h2] at hkd
      simp only [TK.tie] at hks hkd
      split at h
      · rename_i hE
        have hkE := (hI E _ hE).k
        simp only [TK.tie] at hkE
        split at h
        · rename_i hlen
          obtain ⟨l, hl, rfl⟩ := Option.map_eq_some_iff.1 h
          obtain ⟨ns, rfl, rfl⟩ := bytesOf_spec _ _ hl
          cases hx with
          | s _ _ c _ A us hn he k1 k2 =>
            have hrun : (Conv.bytesToString (.slice A n c)).run P w = .ok (.string ⟨(ns.map fun n => UInt8.ofNat n.toNat).toArray⟩) w := by
              by_cases h0 : n = 0
              · have hns : ns = [] := List.eq_nil_of_length_eq_zero (by simp at hlen; omega)
                subst hns h0
                cases A with
                | none => simp [Conv.bytesToString, Sem.run_pure]; rfl
                | some ad =>
                  exact run_bytesToString (P := P) w ad 0 c [] (by simp [loadCells, loadCellsFrom, Sem.run_pure])
              · have hpos : 0 < (ns.map fun n => AV.v (.int .u8 n)).length := by omega
                obtain ⟨ad, rfl, _, _⟩ := k1 0 _ (List.getElem?_eq_getElem hpos)
                have hcell : ∀ j, j < n → w.cell? (ad.add j) = some (us j) := by
                  intro j hj
                  obtain ⟨ad', e1, _, e2⟩ := k1 j _ (List.getElem?_eq_getElem (by omega))
                  obtain rfl := Option.some.inj e1
                  exact e2
                have hload := run_loadCells (P := P) w ad n us hcell
                have heq : ((List.range n).map us).toArray = (ns.map (Value.int .u8)).toArray := by
                  congr 1
                  apply List.ext_getElem?
                  intro j
                  by_cases hj : j < n
                  · have hjl : j < ns.length := by simp at hlen; omega
                    have hr := k2 j (.v (.int .u8 ns[j])) (by simp [hjl])
                    have := rep_v_inv hr
                    simp [hj, hjl, this]
                  · have hjl : ¬ j < ns.length := by simp at hlen; omega
                    rw [List.getElem?_eq_none (by simp; omega), List.getElem?_eq_none (by simp; omega)]
                rw [heq] at hload
                have := run_bytesToString (P := P) w ad n c ns hload
                rw [this, push_fold]
                have he : (ByteArray.empty.data : Array UInt8) = #[] := rfl
                rw [he, Array.empty_append]
            refine ⟨_, ?_, .v _⟩
            simp [convert, run_underlying hks, run_underlying hkd, run_underlying hkE, hrun]
        · cases h
      · cases h
    · cases h
  · cases h

theorem mx2_sound (m : Bool) (ty : TypeId) (tys : Array TypeId) {x y z : AV} {u v : Value} (hx : Rep w g x u) (hy : Rep w g y v) (h : mx2 m x y = some z) :
    ∃ r, (if m then Builtin.max_ tys ty #[u, v] else Builtin.min_ tys ty #[u, v]).run P w = .ok r w ∧ Rep w g z r := by
  unfold mx2 at h
  split at h
  · obtain rfl := rep_v_inv hx
    obtain rfl := rep_v_inv hy
    obtain rfl := Option.some.inj h
    cases m
    · exact ⟨_, by simp [Builtin.min_, Builtin.min2, List.foldlM], .v _⟩
    · exact ⟨_, by simp [Builtin.max_, Builtin.max2, List.foldlM], .v _⟩
  · cases h

theorem builtin_sound (hI : I.Ok P) (hv : Inv w g σ) {key : Nat} (hk : ¬ g.D key) (b : Builtin) (tys : Array TypeId) (ty : TypeId) (consts : Array Bool) {xs : List AV} {us : List Value} {z : AV} {σ1 : Sto}
    (hus : us.length = xs.length) (hr : ∀ (j : Nat) (x : AV) (u : Value), xs[j]? = some x → us[j]? = some u → Rep w g x u) (h : builtinOf I σ key b tys xs = some (z, σ1)) :
    ∃ u w1 g1, (builtin b tys ty consts us.toArray).run P w = .ok (.value u) w1 ∧ Adv w g σ key w1 g1 σ1 ∧ Rep w1 g1 z u := by
  unfold builtinOf at h
  split at h
  · -- len
    rename_i x
    obtain ⟨u, rfl⟩ : ∃ u, us = [u] := by
      match us, hus with
      | [u], _ => exact ⟨u, rfl⟩
    have hx := hr 0 x u rfl rfl
    split at h
    · rename_i t ht
      split at h
      · rename_i hIt
        have hkt := (hI t _ hIt).k
        simp only [TK.tie] at hkt
        split at h
        · obtain rfl := rep_v_inv hx
          simp only [Option.some.injEq, Prod.mk.injEq] at h
          obtain ⟨rfl, rfl⟩ := h
          exact ⟨_, w, g, by simp [builtin, Builtin.len_, ht, run_underlying hkt, goInt], Adv.same hv key, .v _⟩
        · cases h
      · rename_i hIt
        have hkt := (hI t _ hIt).k
        simp only [TK.tie] at hkt
        split at h
        · simp only [Option.some.injEq, Prod.mk.injEq] at h
          obtain ⟨rfl, rfl⟩ := h
          cases hx with
          | s ex n c cs A us hn he k1 k2 => exact ⟨_, w, g, by simp [builtin, Builtin.len_, ht, run_underlying hkt, goInt], Adv.same hv key, .v _⟩
        · simp only [Option.some.injEq, Prod.mk.injEq] at h
          obtain ⟨rfl, rfl⟩ := h
          cases hx with
          | w id lo n c A hD hn h0 h1 => exact ⟨_, w, g, by simp [builtin, Builtin.len_, ht, run_underlying hkt, goInt], Adv.same hv key, .v _⟩
        · cases h
      · cases h
    · cases h
  · -- max
    rename_i x y
    obtain ⟨u, v, rfl⟩ : ∃ u v, us = [u, v] := by
      match us, hus with
      | [u, v], _ => exact ⟨u, v, rfl⟩
    obtain ⟨z', hz, hzz⟩ := Option.map_eq_some_iff.1 h
    simp only [Prod.mk.injEq] at hzz
    obtain ⟨rfl, rfl⟩ := hzz
    obtain ⟨r, h1, h2⟩ := mx2_sound (P := P) true ty tys (hr 0 x u rfl rfl) (hr 1 y v rfl rfl) hz
    simp only [if_true] at h1
    exact ⟨r, w, g, by simp [builtin, h1], Adv.same hv key, h2⟩
  · -- min
    rename_i x y
    obtain ⟨u, v, rfl⟩ : ∃ u v, us = [u, v] := by
      match us, hus with
      | [u, v], _ => exact ⟨u, v, rfl⟩
    obtain ⟨z', hz, hzz⟩ := Option.map_eq_some_iff.1 h
    simp only [Prod.mk.injEq] at hzz
    obtain ⟨rfl, rfl⟩ := hzz
    obtain ⟨r, h1, h2⟩ := mx2_sound (P := P) false ty tys (hr 0 x u rfl rfl) (hr 1 y v rfl rfl) hz
    simp only [Bool.false_eq_true, if_false] at h1
    exact ⟨r, w, g, by simp [builtin, h1], Adv.same hv key, h2⟩
  · -- append
    rename_i x y
    obtain ⟨u, v, rfl⟩ : ∃ u v, us = [u, v] := by
      match us, hus with
      | [u, v], _ => exact ⟨u, v, rfl⟩
    have hx := hr 0 x u rfl rfl
    have hy := hr 1 y v rfl rfl
    have lift : ∀ {s : Sem Value} {q : AV} {σ2 : Sto}, Gives P s w g σ key q σ2 → ∃ u w1 g1, (do pure (Next.value (← s)) : Sem Next).run P w = .ok (.value u) w1 ∧ Adv w g σ key w1 g1 σ2 ∧ Rep w1 g1 q u := by
      rintro s q σ2 ⟨u, w1, g1, h1, h2, h3⟩
      exact ⟨u, w1, g1, by simp [h1], h2, h3⟩
    split at h
    · rename_i htys
      obtain ⟨t, rfl⟩ : ∃ t, tys = #[t, t] := ⟨_, htys⟩
      simp only [show (#[t, t] : Array Nat).getD 0 0 = t from rfl] at h
      split at h
      · rename_i E sz0 by0 zz ht
        split at h
        · rename_i ei hE
          split at h
          · rename_i m news hsc
            split at h
            · rename_i hc
              obtain ⟨hsz, hnl, hok⟩ := hc
              split at h
              · rename_i n cs
                split at h
                · rename_i hc2
                  obtain ⟨hcl, hmax, hby⟩ := hc2
                  have hs := append_s_sound (ty := ty) hI hv hk ht hE hx hy hsc hsz hnl hcl hmax hby
                  split at h
                  · rename_i hm
                    simp only [Option.some.injEq, Prod.mk.injEq] at h
                    obtain ⟨rfl, rfl⟩ := h
                    exact lift (hs.1 hm)
                  · rename_i hm
                    simp only [Option.some.injEq, Prod.mk.injEq] at h
                    obtain ⟨rfl, rfl⟩ := h
                    exact lift (hs.2 hm)
                · cases h
              · rename_i id n
                split at h
                · rename_i E' sz' n0 cs hs
                  split at h
                  · rename_i hc2
                    obtain ⟨rfl, rfl, hcl, hmax, hby, hne⟩ := hc2
                    simp only [Option.some.injEq, Prod.mk.injEq] at h
                    obtain ⟨rfl, rfl⟩ := h
                    exact lift (append_w_sound (ty := ty) hI hv hk ht hE hx hs hy hsc hsz hnl hok hcl hmax hby)
                  · cases h
                · cases h
              · cases h
            · cases h
          · cases h
        · cases h
      · cases h
    · cases h
  · cases h
end
end Go.Proofs.Ytibjofpgbcbloaa.Ev
/-
The engine, part 13: a call of a function; one operation, all kinds.
-/
namespace Go.Proofs.Ytibjofpgbcbloaa.Ev
section
open Go Go.RowKit
set_option linter.unusedVariables false
set_option linter.unusedSimpArgs false
variable {P : Program} {I : Tab} {w : World} {g : G} {σ : Sto} {e : Nat → AV} {a : Act}

def gV (V : Nat → Prop) : G := ⟨V, fun _ => ⟨none, 0⟩, fun _ => False⟩

theorem closedL_mem : ∀ (cs : List AV), closedL cs = true → ∀ (j : Nat) (c : AV), cs[j]? = some c → closed c = true
  | [], _, j, c, h => by simp at h
  | x :: cs, hc, j, c, h => by
    simp only [closedL, Bool.and_eq_true] at hc
    cases j with
    | zero => simp at h; subst h; exact hc.1
    | succ j => exact closedL_mem cs hc.2 j c (by simpa using h)

/-- A closed value is as it is wherever its blocks are told. -/
theorem Rep.closed_to {g' : G} {x : AV} {u : Value} (h : Rep w g x u) (hc : closed x = true) (hV : ∀ b, g.V b → g'.V b) : Rep w g' x u := by
  induction h with
  | v x => exact .v x
  | p cs ad us hV' h1 _ ih =>
    simp only [closed] at hc
    exact .p cs ad us (hV _ hV') h1 (fun j c hj => ih j c hj (closedL_mem cs hc j c hj))
  | s ex n c cs A us hn he h1 _ ih =>
    simp only [closed] at hc
    exact .s ex n c cs A us hn he (fun j x hj => by
      obtain ⟨ad, e1, e2, e3⟩ := h1 j x hj
      exact ⟨ad, e1, hV _ e2, e3⟩) (fun j c hj => ih j c hj (closedL_mem cs hc j c hj))
  | r => simp [closed] at hc
  | w => simp [closed] at hc
  | a cs vs us hs h1 _ ih =>
    simp only [closed] at hc
    exact .a cs vs us hs h1 (fun j c hj => ih j c hj (closedL_mem cs hc j c hj))
  | t xs vs us hs h1 _ ih =>
    simp only [closed] at hc
    exact .t xs vs us hs h1 (fun j c hj => ih j c hj (closedL_mem xs hc j c hj))

/-- A result: a row handed over lies in a block of its own (B). -/
def Res1 (w : World) (V : Nat → Prop) : AV → Value → List Nat → Prop
  | .o E sz n cs, u, B => ∃ A c, u = .slice A n c ∧ cs.length = n * sz ∧ n ≤ c ∧ c ≤ maxLen ∧ 0 < sz ∧ closedL cs = true ∧
      ((c = 0 ∧ B = []) ∨ ∃ b vs, B = [b] ∧ A = some ⟨b, 0, none⟩ ∧ w.heap[b]? = some (.cells vs E (0, 0)) ∧ vs.size = c * sz ∧ Cells w (gV V) cs vs ∧ ¬ V b)
  | x, u, B => B = [] ∧ closed x = true ∧ Rep w (gV V) x u
inductive ResL (w : World) (V : Nat → Prop) : List AV → List Value → List Nat → Prop
  | nil : ResL w V [] [] []
  | cons {x u B xs us Bs} (h : Res1 w V x u B) (k : ResL w V xs us Bs) : ResL w V (x :: xs) (u :: us) (B ++ Bs)
def Res (w : World) (V : Nat → Prop) : AV → Value → List Nat → Prop
  | .t xs, u, B => ∃ us, u = .tuple us ∧ ResL w V xs us.toList B
  | x, u, B => Res1 w V x u B

/-- What a call of f gives, for arguments that never change. -/
def PureOk (P : Program) (f : FuncId) (args : List AV) (x : AV) : Prop :=
  (∃ fn, P.funcs[f]? = some fn ∧ (fn.name == "runtime.NumGoroutine") = false ∧ fn.body.isNone = false) ∧
  ∀ (w : World) (V : Nat → Prop) (us : List Value), (∀ b, V b → b < w.heap.size) → us.length = args.length → (∀ (j : Nat) (y : AV) (u : Value), args[j]? = some y → us[j]? = some u → Rep w (gV V) y u) →
    Calls P f us.toArray w fun en w' => ∃ V' u B, en = .returned u ∧ Below w.heap.size w w' ∧ (∀ b, V b → V' b) ∧ (∀ b, V' b → (V b ∨ w.heap.size ≤ b) ∧ b < w'.heap.size) ∧ Res w' V' x u B ∧ B.Nodup ∧ ∀ b ∈ B, w.heap.size ≤ b ∧ b < w'.heap.size

/-- Another number taken in, behind a step. -/
theorem Adv.adopt {key k : Nat} {w1 : World} {g1 : G} {σ1 : Sto} (h : Adv w g σ key w1 g1 σ1) (hk : ¬ g1.D k) (hkr : key ≤ k ∧ k < key + 4) (c : CR) (s : Slot) (hl : Lies w1 (g1.add k c) k s)
    (hb : ∀ b, blockOf (g1.add k c) k s = some b → (w.heap.size ≤ b ∨ ∃ j0 t0, σ j0 = some t0 ∧ blockOf g j0 t0 = some b) ∧ ∀ j t, σ1 j = some t → blockOf g1 j t ≠ some b) : Adv w g σ key w1 (g1.add k c) (upd σ1 k (some s)) := by
  have hon : Onto w1 g1 w1 (g1.add k c) := onto_add c hk fun _ _ => rfl
  have hv := h.inv
  refine ⟨h.onto.trans hon, ⟨hv.vlt, fun i t hi => ?_, fun i t hi => ?_, fun i j t u b hij hi hj hib => ?_⟩, h.os, h.tape, h.output, h.size, h.keep, h.newV, fun i t b hi hib => ?_, fun i hi => ?_⟩
  · by_cases e : i = k
    · subst e
      simp only [upd, if_true, Option.some.injEq] at hi
      subst hi
      exact hl
    · simp only [upd, e, if_false] at hi
      exact (hv.lies i t hi).onto hon (hv.told i t hi) fun b hb => ⟨rfl, ((hv.lies i t hi).lt hb).2⟩
  · by_cases e : i = k
    · exact .inr e
    · simp only [upd, e, if_false] at hi
      exact .inl (hv.told i t hi)
  · by_cases e : i = k
    · subst e
      simp only [upd, if_true, Option.some.injEq] at hi
      subst hi
      have hj' : σ1 j = some u := by simpa [upd, Ne.symm hij] using hj
      rw [blockOf_add c (Ne.symm hij)]
      exact (hb b hib).2 j u hj'
    · have hi' : σ1 i = some t := by simpa [upd, e] using hi
      rw [blockOf_add c e] at hib
      by_cases e2 : j = k
      · subst e2
        simp only [upd, if_true, Option.some.injEq] at hj
        subst hj
        intro h2
        exact (hb b h2).2 i t hi' hib
      · have hj' : σ1 j = some u := by simpa [upd, e2] using hj
        rw [blockOf_add c e2]
        exact hv.apart i j t u b hij hi' hj' hib
  · by_cases e : i = k
    · subst e
      simp only [upd, if_true, Option.some.injEq] at hi
      subst hi
      exact (hb b hib).1
    · have hi' : σ1 i = some t := by simpa [upd, e] using hi
      rw [blockOf_add c e] at hib
      exact h.live i t b hi' hib
  · rcases hi with h2 | h2
    · exact h.newD i h2
    · exact .inr (h2 ▸ hkr)

theorem adopt1_sound {key k : Nat} {w1 : World} {g1 : G} {σ1 : Sto} (h : Adv w g σ key w1 g1 σ1) (hk : ¬ g1.D k) (hkr : key ≤ k ∧ k < key + 4) {x y : AV} {u : Value} {B : List Nat} {σ2 : Sto}
    (hr : Res1 w1 g1.V x u B) (hB : ∀ b ∈ B, (w.heap.size ≤ b ∨ ∃ j0 t0, σ j0 = some t0 ∧ blockOf g j0 t0 = some b) ∧ ∀ j t, σ1 j = some t → blockOf g1 j t ≠ some b) (ha : adopt1 σ1 k x = some (y, σ2)) :
    ∃ g2, Adv w g σ key w1 g2 σ2 ∧ Rep w1 g2 y u ∧ Onto w1 g1 w1 g2 ∧ g2.V = g1.V ∧ (∀ i, g2.D i → g1.D i ∨ i = k) ∧ (∀ j t b, σ2 j = some t → blockOf g2 j t = some b → b ∈ B ∨ ∃ j0 t0, σ1 j0 = some t0 ∧ blockOf g1 j0 t0 = some b) := by
  have closed_case : closed x = true → adopt1 σ1 k x = some (x, σ1) → Rep w1 (gV g1.V) x u → ∃ g2, Adv w g σ key w1 g2 σ2 ∧ Rep w1 g2 y u ∧ Onto w1 g1 w1 g2 ∧ g2.V = g1.V ∧ (∀ i, g2.D i → g1.D i ∨ i = k) ∧ (∀ j t b, σ2 j = some t → blockOf g2 j t = some b → b ∈ B ∨ ∃ j0 t0, σ1 j0 = some t0 ∧ blockOf g1 j0 t0 = some b) := by
    intro hc ha' hrep
    rw [ha'] at ha
    simp only [Option.some.injEq, Prod.mk.injEq] at ha
    obtain ⟨rfl, rfl⟩ := ha
    exact ⟨g1, h, hrep.closed_to hc (fun _ h => h), Onto.refl _ _, rfl, fun i hi => .inl hi, fun j t b hj hb => .inr ⟨j, t, hj, hb⟩⟩
  cases x
  case o E sz n cs =>
    obtain ⟨A, c, rfl, hl, hn, hm, hsz, hcc, hb⟩ := hr
    simp only [adopt1, hcc, if_true, Option.some.injEq, Prod.mk.injEq] at ha
    obtain ⟨rfl, rfl⟩ := ha
    have hon : Onto w1 g1 w1 (g1.add k ⟨A, c⟩) := onto_add _ hk fun _ _ => rfl
    have hlies : Lies w1 (g1.add k ⟨A, c⟩) k (.row E sz n cs) := by
      refine ⟨hl, by simpa [G.add] using hn, by simpa [G.add] using hm, hsz, ?_⟩
      rcases hb with ⟨h0, _⟩ | ⟨b, vs, _, e1, e2, e3, e4, e5⟩
      · exact .inl (by simpa [G.add] using h0)
      · refine .inr ⟨b, vs, by simpa [G.add] using e1, e2, by simpa [G.add] using e3, fun j x hj => ?_, e5⟩
        obtain ⟨v, f1, f2⟩ := e4 j x hj
        exact ⟨v, f1, f2.closed_to (closedL_mem cs hcc j x hj) (fun _ h => h)⟩
    have hblk : ∀ b, blockOf (g1.add k ⟨A, c⟩) k (.row E sz n cs) = some b → b ∈ B := by
      intro b hb'
      simp only [blockOf, G.add, if_true] at hb'
      split at hb'
      · cases hb'
      · rcases hb with ⟨h0, _⟩ | ⟨b2, vs, e0, e1, _⟩
        · contradiction
        · rw [e1] at hb'
          simp only [Option.map_some, Option.some.injEq] at hb'
          rw [e0, ← hb']
          simp
    refine ⟨_, h.adopt hk hkr ⟨A, c⟩ (.row E sz n cs) hlies (fun b hb' => hB b (hblk b hb')), ?_, hon, rfl, fun i hi => hi, fun j t b hj hb' => ?_⟩
    · refine .w _ _ _ _ _ (.inr rfl) hn (fun _ => by simp [G.add]) (fun hp => ?_)
      rcases hb with ⟨h0, _⟩ | ⟨b2, vs, e0, e1, _⟩
      · omega
      · exact ⟨b2, by simpa [G.add] using e1, e1⟩
    · by_cases e : j = k
      · subst e
        simp only [upd, if_true, Option.some.injEq] at hj
        subst hj
        exact .inl (hblk b hb')
      · have hj' : σ1 j = some t := by simpa [upd, e] using hj
        rw [blockOf_add _ e] at hb'
        exact .inr ⟨j, t, hj', hb'⟩
  all_goals
    obtain ⟨_, hc, hrep⟩ := hr
    first
      | exact closed_case hc (by simp only [adopt1, hc, if_true]) hrep
      | (simp [closed] at hc)

theorem adoptL_sound {key : Nat} : ∀ (xs : List AV) (us : List Value) (B : List Nat) (k : Nat) (w1 : World) (g1 : G) (σ1 σ2 : Sto) (ys : List AV), Adv w g σ key w1 g1 σ1 → (∀ i, k ≤ i → i < key + 4 → ¬ g1.D i) → key ≤ k → k + xs.length ≤ key + 4 →
    ResL w1 g1.V xs us B → B.Nodup → (∀ b ∈ B, (w.heap.size ≤ b ∨ ∃ j0 t0, σ j0 = some t0 ∧ blockOf g j0 t0 = some b) ∧ ∀ j t, σ1 j = some t → blockOf g1 j t ≠ some b) → adoptL σ1 k xs = some (ys, σ2) →
    ∃ g2, Adv w g σ key w1 g2 σ2 ∧ Onto w1 g1 w1 g2 ∧ ys.length = us.length ∧ ∀ (j : Nat) (y : AV) (u : Value), ys[j]? = some y → us[j]? = some u → Rep w1 g2 y u
  | [], us, B, k, w1, g1, σ1, σ2, ys, h, hD, hk, hkl, hr, hnd, hB, ha => by
    cases hr
    simp only [adoptL, Option.some.injEq, Prod.mk.injEq] at ha
    obtain ⟨rfl, rfl⟩ := ha
    exact ⟨g1, h, Onto.refl _ _, rfl, fun j y u hj => by simp at hj⟩
  | x :: xs, _, _, k, w1, g1, σ1, σ2, ys, h, hD, hk, hkl, .cons (u := u) (B := B) (us := us) (Bs := Bs) hr1 hr2, hnd, hB, ha => by
    simp only [List.length_cons] at hkl
    simp only [adoptL] at ha
    obtain ⟨⟨y, σ3⟩, ha1, ha2⟩ := Option.bind_eq_some_iff.1 ha
    obtain ⟨⟨ys', σ4⟩, ha3, ha4⟩ := Option.map_eq_some_iff.1 ha2
    simp only [Prod.mk.injEq] at ha4
    obtain ⟨rfl, rfl⟩ := ha4
    rw [List.nodup_append] at hnd
    obtain ⟨g2, h2, hrep, hon, hV, hDD, hlv⟩ := adopt1_sound h (hD k (Nat.le_refl _) (by omega)) ⟨hk, by omega⟩ hr1 (fun b hb => hB b (List.mem_append_left _ hb)) ha1
    obtain ⟨g3, h3, hon3, hlen, hreps⟩ := adoptL_sound xs us Bs (k + 1) w1 g2 σ3 σ4 ys' h2 (fun i h4 h5 h6 => by
      rcases hDD i h6 with h7 | h7
      · exact hD i (by omega) h5 h7
      · omega) (by omega) (by omega) (by rw [hV]; exact hr2) hnd.2.1 (fun b hb => ⟨(hB b (List.mem_append_right _ hb)).1, fun j t hj hbl => by
        rcases hlv j t b hj hbl with h7 | ⟨j0, t0, h7, h8⟩
        · exact hnd.2.2 b h7 b hb rfl
        · exact (hB b (List.mem_append_right _ hb)).2 j0 t0 h7 h8⟩) ha3
    refine ⟨g3, h3, hon.trans hon3, by simp [hlen], fun j y' u' hj hu => ?_⟩
    cases j with
    | zero =>
      simp at hj hu
      subst hj hu
      exact hrep.onto hon3
    | succ j => exact hreps j y' u' (by simpa using hj) (by simpa using hu)

theorem adopt_sound {x : AV} {key k : Nat} {w1 : World} {g1 : G} {σ1 : Sto} (h : Adv w g σ key w1 g1 σ1) (hD : ∀ i, k ≤ i → i < key + 4 → ¬ g1.D i) (hk : key ≤ k) (hkr : k + room x ≤ key + 4) {y : AV} {u : Value} {B : List Nat} {σ2 : Sto}
    (hr : Res w1 g1.V x u B) (hnd : B.Nodup) (hB : ∀ b ∈ B, (w.heap.size ≤ b ∨ ∃ j0 t0, σ j0 = some t0 ∧ blockOf g j0 t0 = some b) ∧ ∀ j t, σ1 j = some t → blockOf g1 j t ≠ some b) (ha : adopt σ1 k x = some (y, σ2)) :
    ∃ g2, Adv w g σ key w1 g2 σ2 ∧ Rep w1 g2 y u := by
  have one : ∀ {x : AV}, Res1 w1 g1.V x u B → k < key + 4 → adopt1 σ1 k x = some (y, σ2) → ∃ g2, Adv w g σ key w1 g2 σ2 ∧ Rep w1 g2 y u := by
    intro x hr hlt ha
    obtain ⟨g2, h2, hrep, _⟩ := adopt1_sound h (hD k (Nat.le_refl _) hlt) ⟨hk, hlt⟩ hr hB ha
    exact ⟨g2, h2, hrep⟩
  cases x
  case t xs =>
    obtain ⟨us, rfl, hrl⟩ := hr
    simp only [adopt] at ha
    split at ha
    · rename_i hlen
      obtain ⟨⟨ys, σ3⟩, ha1, ha2⟩ := Option.map_eq_some_iff.1 ha
      simp only [Prod.mk.injEq] at ha2
      obtain ⟨rfl, rfl⟩ := ha2
      obtain ⟨g2, h2, _, hl, hreps⟩ := adoptL_sound xs us.toList B k w1 g1 σ1 σ3 ys h hD hk hkr hrl hnd hB ha1
      refine ⟨g2, h2, .t _ _ (fun j => us.getD j undef) (by simpa using hl.symm) (fun j c hj => ?_) (fun j c hj => ?_)⟩
      · have hlt : j < us.size := by
          have := (List.getElem?_eq_some_iff.1 hj).1
          simp at hl
          omega
        simp [Array.getD_eq_getD_getElem?, hlt]
      · have hlt : j < us.size := by
          have := (List.getElem?_eq_some_iff.1 hj).1
          simp at hl
          omega
        have := hreps j c us[j] hj (by simp [hlt])
        simpa [Array.getD_eq_getD_getElem?, hlt] using this
    · cases ha
  case v q => exact one (x := .v q) hr (by simp only [room] at hkr; omega) ha
  case p cs => exact one (x := .p cs) hr (by simp only [room] at hkr; omega) ha
  case s ex n cs => exact one (x := .s ex n cs) hr (by simp only [room] at hkr; omega) ha
  case r id off => exact one (x := .r id off) hr (by simp only [room] at hkr; omega) ha
  case w id lo n => exact one (x := .w id lo n) hr (by simp only [room] at hkr; omega) ha
  case o E sz n cs => exact one (x := .o E sz n cs) hr (by simp only [room] at hkr; omega) ha
  case a cs => exact one (x := .a cs) hr (by simp only [room] at hkr; omega) ha
end
end Go.Proofs.Ytibjofpgbcbloaa.Ev
/-
The engine, part 14: one operation, all kinds.
-/
namespace Go.Proofs.Ytibjofpgbcbloaa.Ev
section
open Go Go.RowKit
set_option linter.unusedVariables false
set_option linter.unusedSimpArgs false
variable {P : Program} {I : Tab} {w : World} {g : G} {σ : Sto} {e : Nat → AV} {a : Act}

theorem deepC_get {f : AV → Option (AV × List Nat)} : ∀ {xs ys : List AV} {is : List Nat}, deepC f xs = some (ys, is) →
    ys.length = xs.length ∧ ∀ (j : Nat) (x : AV), xs[j]? = some x → ∃ y js, ys[j]? = some y ∧ f x = some (y, js) ∧ ∀ i ∈ js, i ∈ is
  | [], ys, is, h => by
    simp only [deepC, Option.some.injEq, Prod.mk.injEq] at h
    obtain ⟨rfl, rfl⟩ := h
    exact ⟨rfl, fun j x hj => by simp at hj⟩
  | x :: xs, ys, is, h => by
    simp only [deepC] at h
    obtain ⟨⟨y, js⟩, h1, h⟩ := Option.bind_eq_some_iff.1 h
    obtain ⟨⟨ys', ks⟩, h2, h⟩ := Option.map_eq_some_iff.1 h
    simp only [Prod.mk.injEq] at h
    obtain ⟨rfl, rfl⟩ := h
    obtain ⟨k1, k2⟩ := deepC_get h2
    refine ⟨by simp [k1], fun j z hj => ?_⟩
    cases j with
    | zero =>
      simp only [List.getElem?_cons_zero, Option.some.injEq] at hj
      subst hj
      exact ⟨y, js, rfl, h1, fun i hi => List.mem_append_left _ hi⟩
    | succ j =>
      obtain ⟨z', ls, e1, e2, e3⟩ := k2 j z (by simpa using hj)
      exact ⟨z', ls, by simpa using e1, e2, fun i hi => List.mem_append_right _ (e3 i hi)⟩

theorem closedL_of : ∀ (ds : List AV), (∀ (j : Nat) (c : AV), ds[j]? = some c → closed c = true) → closedL ds = true
  | [], _ => rfl
  | d :: ds, h => by
    simp only [closedL, Bool.and_eq_true]
    exact ⟨h 0 d rfl, closedL_of ds fun j c hj => h (j + 1) c (by simpa using hj)⟩

theorem closedL_sub {cs ds : List AV} (h : closedL cs = true) (hs : ∀ (j : Nat) (c : AV), ds[j]? = some c → ∃ k : Nat, cs[k]? = some c) : closedL ds = true :=
  closedL_of ds fun j c hj => by
    obtain ⟨k, hk⟩ := hs j c hj
    exact closedL_mem cs h k c hk

theorem get_cut {cs : List AV} {lo n j : Nat} {c : AV} (h : ((cs.drop lo).take n)[j]? = some c) : cs[lo + j]? = some c ∧ j < n := by
  rw [List.getElem?_take] at h
  split at h
  · rw [List.getElem?_drop] at h
    exact ⟨h, ‹_›⟩
  · cases h

theorem deep_sound (hv : Inv w g σ) (V : Nat → Prop) (h1 : ∀ b, g.V b → V b) : ∀ (d : Nat) (x y : AV) (u : Value) (is : List Nat), Rep w g x u → deep σ d x = some (y, is) →
    (∀ i ∈ is, ∀ s, σ i = some s → ∀ b, blockOf g i s = some b → V b) → closed y = true ∧ Rep w (gV V) y u := by
  have leaf : ∀ {x y : AV} {u : Value} {is : List Nat}, Rep w g x u → (if closed x then some (x, ([] : List Nat)) else none) = some (y, is) → closed y = true ∧ Rep w (gV V) y u := by
    intro x y u is hx h
    split at h
    · rename_i hc
      simp only [Option.some.injEq, Prod.mk.injEq] at h
      obtain ⟨rfl, rfl⟩ := h
      exact ⟨hc, hx.closed_to hc h1⟩
    · cases h
  intro d
  induction d with
  | zero => exact fun x y u is hx h _ => leaf hx h
  | succ d ih =>
    intro x y u is hx h h2
    simp only [deep] at h
    split at h
    · -- a row
      rename_i id lo n
      split at h
      · rename_i E sz n0 cs hs
        split at h
        · rename_i hle
          obtain ⟨⟨ds, js⟩, hd, h⟩ := Option.map_eq_some_iff.1 h
          simp only [Prod.mk.injEq] at h
          obtain ⟨rfl, rfl⟩ := h
          obtain ⟨k1, k2⟩ := deepC_get hd
          have hcl : closedL ds = true → closedL ((ds.drop lo).take (n * sz)) = true := fun hc => closedL_sub hc fun j c hj => ⟨_, (get_cut hj).1⟩
          cases hx with
          | w _ _ _ c A hD hn k0 kk =>
            by_cases hn0 : n = 0
            · subst hn0
              refine ⟨by simp [closed, closedL], ?_⟩
              exact .s _ _ _ _ _ (fun _ => undef) hn (fun hf => by simp at hf) (fun j x hj => by simp at hj) (fun j x hj => by simp at hj)
            · obtain ⟨b, hA, rfl⟩ := kk (by omega)
              obtain ⟨l1, l2, l3, l4, l5⟩ := hv.lies id _ hs
              rcases l5 with h0' | ⟨b', us, e1, e2, e3, e4, e5⟩
              · exfalso
                have : n0 = 0 := by omega
                subst this
                have hcs : cs.length = 0 := by simpa using l1
                have : 0 < n * sz := Nat.mul_pos (by omega) l4
                omega
              · rw [hA] at e1
                simp only [Option.some.injEq, Addr.mk.injEq] at e1
                obtain ⟨rfl, -, -⟩ := e1
                have hVb : V b := h2 id List.mem_cons_self _ hs b (by
                  have hc0 : (g.ρ id).cap ≠ 0 := by
                    intro h0
                    have : n0 = 0 := by omega
                    subst this
                    have hcs : cs.length = 0 := by simpa using l1
                    have : 0 < n * sz := Nat.mul_pos (by omega) l4
                    omega
                  simp [blockOf, hA, hc0])
                have hall : ∀ (j : Nat) (x : AV), ds[j]? = some x → ∃ v, us[j]? = some v ∧ closed x = true ∧ Rep w (gV V) x v := by
                  intro j x hj
                  have hlt : j < cs.length := by
                    rw [← k1]
                    exact (List.getElem?_eq_some_iff.1 hj).1
                  obtain ⟨y, ls, f1, f2, f3⟩ := k2 j cs[j] (List.getElem?_eq_getElem hlt)
                  rw [hj] at f1
                  obtain rfl := Option.some.inj f1
                  obtain ⟨v, e5, e6⟩ := e4 j _ (List.getElem?_eq_getElem hlt)
                  exact ⟨v, e5, ih _ _ _ _ e6 f2 fun i hi => h2 i (List.mem_cons_of_mem _ (f3 i hi))⟩
                refine ⟨by simpa only [closed] using hcl (closedL_of ds fun j c hj => (hall j c hj).choose_spec.2.1), ?_⟩
                refine .s _ _ _ _ _ (fun j => us.getD (lo + j) undef) hn (fun hf => by simp at hf) (fun j x hj => ?_) (fun j x hj => ?_)
                · obtain ⟨v, f1, f2, f3⟩ := hall _ _ (get_cut hj).1
                  refine ⟨_, rfl, hVb, ?_⟩
                  rw [add_lit0, cell_at w b _ us E _ e2]
                  simp [Array.getD_eq_getD_getElem?, f1]
                · obtain ⟨v, f1, f2, f3⟩ := hall _ _ (get_cut hj).1
                  simpa [Array.getD_eq_getD_getElem?, f1] using f3
        · cases h
      · cases h
    · -- a block
      rename_i id off
      split at h
      · rename_i T cs hs
        obtain ⟨⟨ds, js⟩, hd, h⟩ := Option.map_eq_some_iff.1 h
        simp only [Prod.mk.injEq] at h
        obtain ⟨rfl, rfl⟩ := h
        obtain ⟨k1, k2⟩ := deepC_get hd
        cases hx with
        | r _ _ b hD hA =>
          obtain ⟨b', us, e1, e2, e3, e4, e5⟩ := hv.lies id _ hs
          rw [hA] at e1
          simp only [Option.some.injEq, Addr.mk.injEq] at e1
          obtain ⟨rfl, -, -⟩ := e1
          have hVb : V b := h2 id List.mem_cons_self _ hs b (by simp [blockOf, hA])
          have hall : ∀ (j : Nat) (x : AV), ds[j]? = some x → ∃ v, us[j]? = some v ∧ closed x = true ∧ Rep w (gV V) x v := by
            intro j x hj
            have hlt : j < cs.length := by
              rw [← k1]
              exact (List.getElem?_eq_some_iff.1 hj).1
            obtain ⟨y, ls, f1, f2, f3⟩ := k2 j cs[j] (List.getElem?_eq_getElem hlt)
            rw [hj] at f1
            obtain rfl := Option.some.inj f1
            obtain ⟨v, e5, e6⟩ := e4 j _ (List.getElem?_eq_getElem hlt)
            exact ⟨v, e5, ih _ _ _ _ e6 f2 fun i hi => h2 i (List.mem_cons_of_mem _ (f3 i hi))⟩
          refine ⟨?_, .p _ _ (fun j => us.getD (off + j) undef) hVb (fun j x hj => ?_) (fun j x hj => ?_)⟩
          · simp only [closed]
            exact closedL_of _ fun j c hj => by
              rw [List.getElem?_drop] at hj
              exact (hall _ c hj).choose_spec.2.1
          · rw [List.getElem?_drop] at hj
            obtain ⟨v, f1, f2, f3⟩ := hall _ _ hj
            rw [add_lit0, cell_at w b _ us T _ e2]
            simp [Array.getD_eq_getD_getElem?, f1]
          · rw [List.getElem?_drop] at hj
            obtain ⟨v, f1, f2, f3⟩ := hall _ _ hj
            simpa [Array.getD_eq_getD_getElem?, f1] using f3
      · rename_i cs hs
        split at h
        · rename_i hcn
          obtain ⟨hcc, hne⟩ := hcn
          simp only [Option.some.injEq, Prod.mk.injEq] at h
          obtain ⟨rfl, rfl⟩ := h
          cases hx with
          | r _ _ b hD hA =>
            refine ⟨by simp only [closed]; exact closedL_sub hcc fun j c hj => ⟨off + j, by rwa [List.getElem?_drop] at hj⟩, ?_⟩
            rcases hv.lies id _ hs b hA with h0 | ⟨hVb, hcell⟩
            · exact absurd h0 hne
            · have hall : ∀ (j : Nat) (x : AV), (cs.drop off)[j]? = some x → ∃ u, w.cell? ((⟨b, off, none⟩ : Addr).add j) = some u ∧ Rep w (gV V) x u := by
                intro j x hj
                rw [List.getElem?_drop] at hj
                obtain ⟨u, f1, f2⟩ := hcell _ _ hj
                rw [add_lit0] at f1 ⊢
                rw [Nat.zero_add] at f1
                exact ⟨u, f1, f2.closed_to (closedL_mem cs hcc _ _ hj) h1⟩
              refine .p _ _ (fun j => (w.cell? ((⟨b, off, none⟩ : Addr).add j)).getD undef) (h1 b hVb) (fun j x hj => ?_) (fun j x hj => ?_)
              · obtain ⟨u, f1, f2⟩ := hall j x hj
                rw [f1, Option.getD_some]
              · obtain ⟨u, f1, f2⟩ := hall j x hj
                rw [f1, Option.getD_some]
                exact f2
        · cases h
      · cases h
    · -- a struct
      rename_i cs
      obtain ⟨⟨ds, js⟩, hd, h⟩ := Option.map_eq_some_iff.1 h
      simp only [Prod.mk.injEq] at h
      obtain ⟨rfl, rfl⟩ := h
      obtain ⟨k1, k2⟩ := deepC_get hd
      cases hx with
      | a _ vs us hs e1 e2 =>
        have hall : ∀ (j : Nat) (x : AV), ds[j]? = some x → vs[j]? = some (us j) ∧ closed x = true ∧ Rep w (gV V) x (us j) := by
          intro j x hj
          have hlt : j < cs.length := by
            rw [← k1]
            exact (List.getElem?_eq_some_iff.1 hj).1
          obtain ⟨y, ls, f1, f2, f3⟩ := k2 j cs[j] (List.getElem?_eq_getElem hlt)
          rw [hj] at f1
          obtain rfl := Option.some.inj f1
          exact ⟨e1 j _ (List.getElem?_eq_getElem hlt), ih _ _ _ _ (e2 j _ (List.getElem?_eq_getElem hlt)) f2 fun i hi => h2 i (f3 i hi)⟩
        refine ⟨?_, .a _ _ us (by rw [hs, k1]) (fun j c hj => (hall j c hj).1) (fun j c hj => (hall j c hj).2.2)⟩
        simp only [closed]
        exact closedL_of _ fun j c hj => (hall j c hj).2.1
    · exact leaf hx h

/-- The blocks that never change, and those of some numbers. -/
def G.frz (g : G) (σ : Sto) (ids : List Nat) : G := ⟨fun b => g.V b ∨ ∃ i ∈ ids, ∃ s, σ i = some s ∧ blockOf g i s = some b, g.ρ, g.D⟩

theorem deepL_sound (hv : Inv w g σ) (V : Nat → Prop) (h1 : ∀ b, g.V b → V b) (d : Nat) : ∀ (xs ys : List AV) (us : List Value) (is : List Nat), us.length = xs.length → (∀ (j : Nat) (x : AV) (u : Value), xs[j]? = some x → us[j]? = some u → Rep w g x u) → deepC (deep σ d) xs = some (ys, is) →
    (∀ i ∈ is, ∀ s, σ i = some s → ∀ b, blockOf g i s = some b → V b) → us.length = ys.length ∧ closedL ys = true ∧ ∀ (j : Nat) (y : AV) (u : Value), ys[j]? = some y → us[j]? = some u → Rep w (gV V) y u := by
  intro xs ys us is hl hr h h2
  obtain ⟨k1, k2⟩ := deepC_get h
  have hall : ∀ (j : Nat) (y : AV), ys[j]? = some y → ∃ u, us[j]? = some u ∧ closed y = true ∧ Rep w (gV V) y u := by
    intro j y hj
    have hlt : j < xs.length := by
      rw [← k1]
      exact (List.getElem?_eq_some_iff.1 hj).1
    obtain ⟨z, ls, f1, f2, f3⟩ := k2 j xs[j] (List.getElem?_eq_getElem hlt)
    rw [hj] at f1
    obtain rfl := Option.some.inj f1
    have hu : us[j]? = some us[j] := List.getElem?_eq_getElem (by omega)
    exact ⟨_, hu, deep_sound hv V h1 d _ _ _ _ (hr j _ _ (List.getElem?_eq_getElem hlt) hu) f2 fun i hi => h2 i (f3 i hi)⟩
  refine ⟨by omega, closedL_of _ fun j c hj => (hall j c hj).choose_spec.2.1, fun j y u hj hu => ?_⟩
  obtain ⟨u', f1, _, f3⟩ := hall j y hj
  rw [hu] at f1
  exact (Option.some.inj f1) ▸ f3

theorem Rep.fullV {V : Nat → Prop} {g' : G} {x : AV} {u : Value} (h : Rep w (gV V) x u) (hV : ∀ b, V b → g'.V b) (hD : ∀ i, ¬ (gV V).D i) : Rep w g' x u :=
  h.onto ⟨hV, fun _ _ => rfl, fun i hi => (hD i hi).elim, fun i hi => (hD i hi).elim⟩

/-- Numbers whose blocks never change from now on. -/
theorem adv_frz (hv : Inv w g σ) (key d : Nat) (ids : List Nat) : Adv w g σ key w (g.frz σ ids) (frz σ d ids) := by
  have hon : Onto w g w (g.frz σ ids) := ⟨fun _ h => .inl h, fun _ _ => rfl, fun _ h => h, fun _ _ => rfl⟩
  have hbl : ∀ i s, blockOf (g.frz σ ids) i s = blockOf g i s := fun i s => by cases s <;> rfl
  have hfz : ∀ i, i ∈ ids → ∀ t, frz σ d ids i = some t → ∃ s ds is, σ i = some s ∧ deepC (deep σ d) s.cells = some (ds, is) ∧ is.all (· ∈ ids) = true ∧ t = .fz ds := by
    intro i hi t ht
    simp only [frz, hi, if_true] at ht
    obtain ⟨s, h1, h2⟩ := Option.bind_eq_some_iff.1 ht
    obtain ⟨⟨ds, is⟩, h3, h4⟩ := Option.bind_eq_some_iff.1 h2
    simp only at h4
    split at h4
    · rename_i hc
      exact ⟨s, ds, is, h1, h3, hc, (Option.some.inj h4).symm⟩
    · cases h4
  have hno : ∀ i, i ∉ ids → frz σ d ids i = σ i := fun i hi => by simp [frz, hi]
  refine ⟨hon, ⟨fun b hb => ?_, fun i t ht => ?_, fun i t ht => ?_, fun i j t u b hij hi hj hib => ?_⟩, rfl, rfl, rfl, Nat.le_refl _, fun _ _ _ => rfl, fun b hb => hb.elim .inl fun ⟨i, _, s, h1, h2⟩ => .inr (.inr ⟨i, s, h1, h2⟩), fun i t b hi hib => ?_, fun i hi => .inl hi⟩
  · rcases hb with h | ⟨i, _, s, h1, h2⟩
    · exact hv.vlt b h
    · exact ((hv.lies i s h1).lt h2).1
  · by_cases hi : i ∈ ids
    · obtain ⟨s, ds, is, h1, h2, h3, rfl⟩ := hfz i hi t ht
      intro b hA
      obtain ⟨us, hus⟩ := hv.at_ h1 hA
      by_cases hds : ds = []
      · exact .inl hds
      refine .inr ⟨?_, fun j c hj => ?_⟩
      · cases s with
        | ob T cs => exact .inr ⟨i, hi, _, h1, by simp only [blockOf]; rw [show (g.ρ i).A = _ from hA]; rfl⟩
        | row E sz n cs =>
          refine .inr ⟨i, hi, _, h1, ?_⟩
          obtain ⟨l1, l2, l3, l4, l5⟩ := hv.lies i _ h1
          have hc0 : (g.ρ i).cap ≠ 0 := by
            intro h0
            have : n = 0 := by omega
            subst this
            have hcs : cs.length = 0 := by simpa using l1
            exact hds (List.eq_nil_of_length_eq_zero (by rw [(deepC_get h2).1]; exact hcs))
          simp only [blockOf, hc0, if_false]
          rw [show (g.ρ i).A = _ from hA]
          rfl
        | fz cs =>
          rcases hv.lies i _ h1 b hA with h0 | h0
          · subst h0
            exact absurd (List.eq_nil_of_length_eq_zero (by rw [(deepC_get h2).1]; rfl)) hds
          · exact .inl h0.1
      · obtain ⟨k1, k2⟩ := deepC_get h2
        have hlt : j < s.cells.length := by
          rw [← k1]
          exact (List.getElem?_eq_some_iff.1 hj).1
        obtain ⟨z, ls, f1, f2, f3⟩ := k2 j s.cells[j] (List.getElem?_eq_getElem hlt)
        rw [hj] at f1
        obtain rfl := Option.some.inj f1
        obtain ⟨e1, e2⟩ := hus j _ (List.getElem?_eq_getElem hlt)
        refine ⟨_, e1, ?_⟩
        have := (deep_sound hv (g.frz σ ids).V (fun _ h => .inl h) d _ _ _ _ e2 f2 fun k hk s' hs' b' hb' => .inr ⟨k, ?_, s', hs', hb'⟩).2
        · exact this.fullV (fun _ h => h) fun _ h => h
        · simpa using List.all_eq_true.1 h3 k (f3 k hk)
    · rw [hno i hi] at ht
      refine (hv.lies i t ht).onto hon (hv.told i t ht) fun b hb => ⟨rfl, fun hV => ?_⟩
      rcases hV with h | ⟨j, hj, s, h1, h2⟩
      · exact ((hv.lies i t ht).lt hb).2 h
      · exact hv.apart i j t s b (fun e => hi (e ▸ hj)) ht h1 hb h2
  · by_cases hi : i ∈ ids
    · obtain ⟨s, ds, is, h1, _⟩ := hfz i hi t ht
      exact hv.told i s h1
    · rw [hno i hi] at ht
      exact hv.told i t ht
  · rw [hbl] at hib ⊢
    by_cases hi' : i ∈ ids
    · obtain ⟨s, ds, is, h1, h2, h3, rfl⟩ := hfz i hi' t hi
      simp [blockOf] at hib
    · by_cases hj' : j ∈ ids
      · obtain ⟨s, ds, is, h1, h2, h3, rfl⟩ := hfz j hj' u hj
        simp [blockOf]
      · rw [hno i hi'] at hi
        rw [hno j hj'] at hj
        exact hv.apart i j t u b hij hi hj hib
  · rw [hbl] at hib
    by_cases hi' : i ∈ ids
    · obtain ⟨s, ds, is, h1, h2, h3, rfl⟩ := hfz i hi' t hi
      simp [blockOf] at hib
    · rw [hno i hi'] at hi
      exact .inr ⟨i, t, hi, hib⟩

/-- A call that has laid new blocks alone. -/
theorem adv_below (hv : Inv w g σ) (key : Nat) {w1 : World} (hB : Below w.heap.size w w1) (V : Nat → Prop) (h1 : ∀ b, g.V b → V b) (h2 : ∀ b, V b → (g.V b ∨ w.heap.size ≤ b) ∧ b < w1.heap.size) :
    Adv w g σ key w1 ⟨V, g.ρ, g.D⟩ σ := by
  have hon : Onto w g w1 ⟨V, g.ρ, g.D⟩ := ⟨h1, fun b hb => hB.block b (hv.vlt b hb), fun _ h => h, fun _ _ => rfl⟩
  have hbl : ∀ i s, blockOf ⟨V, g.ρ, g.D⟩ i s = blockOf g i s := fun i s => by cases s <;> rfl
  refine ⟨hon, ⟨fun b hb => (h2 b hb).2, fun i t hi => ?_, hv.told, fun i j t u b hij hi hj hb => ?_⟩, hB.os, hB.tape, hB.output, hB.size, fun b hb _ => hB.block b hb, fun b hb => (h2 b hb).1.elim .inl fun h => .inr (.inl h), fun i t b hi hb => .inr ⟨i, t, hi, by rwa [hbl] at hb⟩, fun i hi => .inl hi⟩
  · refine (hv.lies i t hi).onto hon (hv.told i t hi) fun b hb => ?_
    have hlt := (hv.lies i t hi).lt hb
    exact ⟨hB.block b hlt.1, fun h => (h2 b h).1.elim hlt.2 (fun h3 => by omega)⟩
  · rw [hbl] at hb ⊢
    exact hv.apart i j t u b hij hi hj hb

theorem flat1_res {w1 : World} {V V2 : Nat → Prop} {x : AV} {u : Value} {B : List Nat} (h : Res1 w1 V x u B) (hf : flat1 x = true) (hB : ∀ b ∈ B, ¬ V2 b) : Res1 w1 V2 x u B := by
  cases x <;> simp only [flat1, Bool.false_eq_true] at hf
  case v q =>
    obtain ⟨h1, h2, h3⟩ := h
    exact ⟨h1, h2, by cases h3; exact .v _⟩
  case o E sz n cs =>
    obtain ⟨A, c, rfl, hl, hn, hm, hsz, hcc, hb⟩ := h
    refine ⟨A, c, rfl, hl, hn, hm, hsz, hcc, ?_⟩
    rcases hb with h0 | ⟨b, vs, e0, e1, e2, e3, e4, e5⟩
    · exact .inl h0
    · refine .inr ⟨b, vs, e0, e1, e2, e3, fun j x hj => ?_, hB b (by rw [e0]; simp)⟩
      obtain ⟨v, f1, f2⟩ := e4 j x hj
      have hp : plain x = true := List.all_eq_true.1 hf x (List.mem_of_getElem? hj)
      cases x <;> simp only [plain, Bool.false_eq_true] at hp
      cases f2
      exact ⟨_, f1, .v _⟩

theorem flatL_res {w1 : World} {V V2 : Nat → Prop} {xs : List AV} {us : List Value} {B : List Nat} (h : ResL w1 V xs us B) (hf : xs.all flat1 = true) (hB : ∀ b ∈ B, ¬ V2 b) : ResL w1 V2 xs us B := by
  induction h with
  | nil => exact .nil
  | cons h k ih =>
    simp only [List.all_cons, Bool.and_eq_true] at hf
    exact .cons (flat1_res h hf.1 (fun b hb => hB b (List.mem_append_left _ hb))) (ih hf.2 (fun b hb => hB b (List.mem_append_right _ hb)))

theorem flat_res {w1 : World} {V V2 : Nat → Prop} {x : AV} {u : Value} {B : List Nat} (h : Res w1 V x u B) (hf : flat x = true) (hB : ∀ b ∈ B, ¬ V2 b) : Res w1 V2 x u B := by
  cases x
  case t xs =>
    obtain ⟨us, rfl, hr⟩ := h
    exact ⟨us, rfl, flatL_res hr hf hB⟩
  case v q => exact flat1_res (x := .v q) h hf hB
  case o E sz n cs => exact flat1_res (x := .o E sz n cs) h hf hB
  all_goals simp [flat, flat1] at hf

theorem call_sound (hv : Inv w g σ) (henv : Env w g e a) {key : Nat} (hD : ∀ i, key ≤ i → i < key + 4 → ¬ g.D i) {o : Oper} {f : FuncId} {args : Array Operand} {tys : Array TypeId}
    (hop : o.op = .call { callee := .value (.func f), args := args, argTypes := tys }) {d : Nat} {xs : List AV} {ids : List Nat} (hl : deepC (deep σ d) (args.toList.map (val e)) = some (xs, ids)) {x : AV} (hC : PureOk P f xs x)
    {y : AV} {σ1 : Sto} (had : (if ids = [] ∨ flat x = true then adopt σ key x else adopt (frz σ d ids) key x) = some (y, σ1)) {next : Act → World → Prop} {Q : Exit → Act → World → Prop} (hN : ∀ u w1 g1, Adv w g σ key w1 g1 σ1 → Rep w1 g1 y u → next (a.put o.dst u) w1) : o.wp P a w next Q := by
  obtain ⟨⟨fn, hf, hname, hb⟩, hcall⟩ := hC
  have h2 : ¬ fn.body = none := by cases hx : fn.body <;> simp_all
  have hrun : (execOp a.eval o).run P w = .ok (.enter f (args.map a.eval)) w := by
    have h1 : ¬ fn.name = "runtime.NumGoroutine" := by simpa using hname
    unfold execOp
    simp [hop, resolve, Deferred.ofValue, invoke, callFunc, hf, h1, h2, Act.eval]
  unfold Oper.wp
  rw [hrun]
  show Calls P f (args.map a.eval) w _
  have hreps : ∀ (j : Nat) (x : AV) (u : Value), (args.toList.map (val e))[j]? = some x → (args.toList.map a.eval)[j]? = some u → Rep w g x u := fun j x u hj hu => by
    simp only [List.getElem?_map] at hj hu
    obtain ⟨q, hq, rfl⟩ := Option.map_eq_some_iff.1 hj
    rw [hq] at hu
    simp only [Option.map_some, Option.some.injEq] at hu
    subst hu
    exact henv.val q
  have harr : args.map a.eval = (args.toList.map a.eval).toArray := by rw [← Array.toList_map, Array.toArray_toList]
  rw [harr]
  have hroom : key + room x ≤ key + 4 := by
    have : ∃ τ, (adopt τ key x).isSome := by
      split at had
      · exact ⟨σ, by rw [had]; rfl⟩
      · exact ⟨_, by rw [had]; rfl⟩
    obtain ⟨τ, hτ⟩ := this
    cases x <;> simp only [room] <;> try omega
    simp only [adopt] at hτ
    split at hτ
    · omega
    · cases hτ
  by_cases hfl : ids ≠ [] ∧ flat x = true
  · have hff := hfl.2
    rw [if_pos (.inr hff)] at had
    obtain ⟨i1, _, i2⟩ := deepL_sound hv (fun k => k < w.heap.size) hv.vlt d _ xs (args.toList.map a.eval) ids (by simp) hreps hl fun i _ s hs b hb => ((hv.lies i s hs).lt hb).1
    refine (hcall w (fun k => k < w.heap.size) _ (fun _ h => h) i1 i2).mono ?_
    rintro en w' ⟨V', u, B, rfl, hB, hV1, hV2, hres, hnd, hBB⟩
    have hadv := adv_below hv key hB g.V (fun _ h => h) (fun b hb => ⟨.inl hb, Nat.lt_of_lt_of_le (hv.vlt b hb) hB.size⟩)
    have hres2 : Res w' g.V x u B := flat_res hres hff (fun b hb h => by
      have := hv.vlt b h
      have := (hBB b hb).1
      omega)
    obtain ⟨g2, h3, h4⟩ := adopt_sound hadv hD (Nat.le_refl _) hroom hres2 hnd (fun b hb => ⟨.inl (hBB b hb).1, fun j t hj hbl => by
      have := ((hv.lies j t hj).lt hbl).1
      have := (hBB b hb).1
      omega⟩) had
    exact hN u w' g2 h3 h4
  · -- what is lent never changes from now on
    have hadf : Adv w g σ key w (g.frz σ ids) (frz σ d ids) := adv_frz hv key d ids
    have hvf := hadf.inv
    obtain ⟨σf, had', hadf⟩ : ∃ σf, adopt σf key x = some (y, σ1) ∧ Adv w g σ key w (g.frz σ ids) σf := by
      by_cases he : ids = []
      · subst he
        rw [if_pos (.inl rfl)] at had
        have : frz σ d [] = σ := by funext i; simp [frz]
        rw [this] at hadf
        exact ⟨σ, had, hadf⟩
      · have hff : ¬ flat x = true := fun hff => hfl ⟨he, hff⟩
        rw [if_neg (by rintro (h | h); exact he h; exact hff h)] at had
        exact ⟨_, had, hadf⟩
    have hvf := hadf.inv
    obtain ⟨i1, _, i2⟩ := deepL_sound hv (g.frz σ ids).V (fun _ h => .inl h) d _ xs (args.toList.map a.eval) ids (by simp) hreps hl fun i hi s hs b hb => .inr ⟨i, hi, s, hs, hb⟩
    refine (hcall w (g.frz σ ids).V _ hvf.vlt i1 i2).mono ?_
    rintro en w' ⟨V', u, B, rfl, hB, hV1, hV2, hres, hnd, hBB⟩
    have hadv := hadf.trans (adv_below hvf key hB V' hV1 hV2)
    obtain ⟨g2, h3, h4⟩ := adopt_sound hadv (g1 := ⟨V', g.ρ, g.D⟩) hD (Nat.le_refl _) hroom hres hnd (fun b hb => ⟨.inl (hBB b hb).1, fun j t hj hbl => by
      have hbl' : blockOf (g.frz σ ids) j t = some b := by cases t <;> exact hbl
      have := ((hvf.lies j t hj).lt hbl').1
      have := (hBB b hb).1
      omega⟩) had'
    exact hN u w' g2 h3 h4

theorem resL_closed {w1 : World} {V : Nat → Prop} {xs : List AV} {us : List Value} {B : List Nat} (h : ResL w1 V xs us B) (hc : closedL xs = true) :
    us.length = xs.length ∧ ∀ (j : Nat) (x : AV) (u : Value), xs[j]? = some x → us[j]? = some u → Rep w1 (gV V) x u := by
  induction h with
  | nil => exact ⟨rfl, fun j x u hj => by simp at hj⟩
  | cons h k ih =>
    rename_i x u B xs us Bs
    simp only [closedL, Bool.and_eq_true] at hc
    obtain ⟨i1, i2⟩ := ih hc.2
    refine ⟨by simp [i1], fun j y v hj hu => ?_⟩
    cases j with
    | zero =>
      simp at hj hu
      subst hj hu
      cases x
      case o => simp [closed] at hc
      all_goals exact h.2.2
    | succ j => exact i2 j y v (by simpa using hj) (by simpa using hu)

theorem res_closed {w1 : World} {V : Nat → Prop} {x : AV} {u : Value} {B : List Nat} (h : Res w1 V x u B) (hc : closed x = true) : Rep w1 (gV V) x u := by
  cases x
  case t xs =>
    obtain ⟨us, rfl, hr⟩ := h
    simp only [closed] at hc
    obtain ⟨i1, i2⟩ := resL_closed hr hc
    simp only [Array.length_toList] at i1
    refine .t _ _ (fun j => us.getD j undef) i1 (fun j c hj => ?_) (fun j c hj => ?_)
    · have hlt : j < us.size := by
        have := (List.getElem?_eq_some_iff.1 hj).1
        omega
      simp [Array.getD_eq_getD_getElem?, hlt]
    · have hlt : j < us.size := by
        have := (List.getElem?_eq_some_iff.1 hj).1
        omega
      have := i2 j c us[j] hj (by simp [hlt])
      simpa [Array.getD_eq_getD_getElem?, hlt] using this
  case o => simp [closed] at hc
  case v q => exact h.2.2
  case p => exact h.2.2
  case s => exact h.2.2
  case r => simp [closed] at hc
  case w => simp [closed] at hc
  case a => exact h.2.2

theorem call_pure (hv : Inv w g σ) (henv : Env w g e a) {key : Nat} {o : Oper} {f : FuncId} {args : Array Operand} {tys : Array TypeId}
    (hop : o.op = .call { callee := .value (.func f), args := args, argTypes := tys }) (hcl : closedL (args.toList.map (val e)) = true) {x : AV} (hC : PureOk P f (args.toList.map (val e)) x) (hcx : closed x = true)
    {next : Act → World → Prop} {Q : Exit → Act → World → Prop} (hN : ∀ u w1 g1, Adv w g σ key w1 g1 σ → Rep w1 g1 x u → next (a.put o.dst u) w1) : o.wp P a w next Q := by
  obtain ⟨⟨fn, hf, hname, hb⟩, hcall⟩ := hC
  have h2 : ¬ fn.body = none := by cases hx : fn.body <;> simp_all
  have hrun : (execOp a.eval o).run P w = .ok (.enter f (args.map a.eval)) w := by
    have h1 : ¬ fn.name = "runtime.NumGoroutine" := by simpa using hname
    unfold execOp
    simp [hop, resolve, Deferred.ofValue, invoke, callFunc, hf, h1, h2, Act.eval]
  unfold Oper.wp
  rw [hrun]
  show Calls P f (args.map a.eval) w _
  have harr : args.map a.eval = (args.toList.map a.eval).toArray := by rw [← Array.toList_map, Array.toArray_toList]
  rw [harr]
  refine (hcall w g.V _ hv.vlt (by simp only [List.length_map]) (fun j y u hj hu => ?_)).mono ?_
  · have hcy := closedL_mem _ hcl j y hj
    simp only [List.getElem?_map] at hj hu
    obtain ⟨q, hq, rfl⟩ := Option.map_eq_some_iff.1 hj
    rw [hq] at hu
    simp only [Option.map_some, Option.some.injEq] at hu
    subst hu
    exact (henv.val q).closed_to hcy (fun _ h => h)
  · rintro en w' ⟨V', u, B, rfl, hB, hV1, hV2, hres, hnd, hBB⟩
    exact hN u w' _ (adv_below hv key hB V' hV1 hV2) ((res_closed hres hcx).closed_to hcx (fun _ h => h))
end
end Go.Proofs.Ytibjofpgbcbloaa.Ev
/-
The engine, part 14a: rows and values as they are handed over.
-/
namespace Go.Proofs.Ytibjofpgbcbloaa.Ev
section
open Go Go.RowKit
set_option linter.unusedVariables false
set_option linter.unusedSimpArgs false
variable {P : Program} {I : Tab} {w : World} {g : G} {σ : Sto}

/-- The blocks of numbers of the store. -/
def blocksOf (g : G) (σ : Sto) (is : List Nat) : List Nat := is.filterMap fun i => (σ i).bind fun s => blockOf g i s

theorem mem_blocksOf {is : List Nat} {b : Nat} : b ∈ blocksOf g σ is ↔ ∃ i ∈ is, ∃ s, σ i = some s ∧ blockOf g i s = some b := by
  simp only [blocksOf, List.mem_filterMap]
  constructor
  · rintro ⟨i, hi, h⟩
    obtain ⟨s, h1, h2⟩ := Option.bind_eq_some_iff.1 h
    exact ⟨i, hi, s, h1, h2⟩
  · rintro ⟨i, hi, s, h1, h2⟩
    exact ⟨i, hi, by rw [h1]; exact h2⟩

theorem tk_get {n N sz j : Nat} {ds : List AV} {x : AV} (h : (tk n N sz ds)[j]? = some x) : ds[j]? = some x := by
  unfold tk at h
  split at h
  · exact h
  · rw [List.getElem?_take] at h
    split at h
    · exact h
    · cases h

theorem tk_len {n N sz : Nat} {ds : List AV} (h : ds.length = N * sz) (hn : n ≤ N) : (tk n N sz ds).length = n * sz := by
  unfold tk
  split
  · rename_i e
    rw [h, e]
  · rw [List.length_take, h, Nat.min_eq_left (Nat.mul_le_mul_right sz hn)]

/-- A row of the store, as it is handed over. -/
theorem own_sound (hv : Inv w g σ) (V : Nat → Prop) (h1 : ∀ b, g.V b → V b) {id n d E sz N : Nat} {cs ds : List AV} {is : List Nat} {u : Value} (hx : Rep w g (.w id 0 n) u) (hs : σ id = some (.row E sz N cs)) (hn : n ≤ N) (hd : deepC (deep σ d) cs = some (ds, is))
    (h2 : ∀ i ∈ is, ∀ s, σ i = some s → ∀ b, blockOf g i s = some b → V b) (h3 : ∀ s, σ id = some s → ∀ b, blockOf g id s = some b → ¬ V b) :
    ∃ A c, u = .slice A n c ∧ (g.ρ id) = ⟨A, c⟩ ∧ Res1 w V (.o E sz n (tk n N sz ds)) u (blocksOf g σ [id]) := by
  cases hx with
  | w _ _ _ c A hD hnc k0 k1 =>
    obtain ⟨hA, hcap⟩ := k0 rfl
    obtain ⟨l1, l2, l3, l4, l5⟩ := hv.lies id _ hs
    obtain ⟨e1, e2⟩ := deepC_get hd
    have hall : ∀ (us : Array Value), Cells w g cs us → ∀ (j : Nat) (x : AV), ds[j]? = some x → ∃ v, us[j]? = some v ∧ closed x = true ∧ Rep w (gV V) x v := by
      intro us e4 j x hj
      have hlt : j < cs.length := by
        rw [← e1]
        exact (List.getElem?_eq_some_iff.1 hj).1
      obtain ⟨y, ls, f1, f2, f3⟩ := e2 j cs[j] (List.getElem?_eq_getElem hlt)
      rw [hj] at f1
      obtain rfl := Option.some.inj f1
      obtain ⟨v, e5, e6⟩ := e4 j _ (List.getElem?_eq_getElem hlt)
      exact ⟨v, e5, deep_sound hv V h1 d _ _ _ _ e6 f2 fun i hi => h2 i (f3 i hi)⟩
    have hlen : (tk n N sz ds).length = n * sz := tk_len (by rw [e1, l1]) hn
    refine ⟨A, c, rfl, by cases hg : g.ρ id; simp [hg] at hA hcap; simp [hA, hcap], A, c, rfl, hlen, hnc, by rw [hcap]; exact l3, l4, ?_, ?_⟩
    · rcases l5 with h0 | ⟨b, us, _, _, _, e4, _⟩
      · have : N = 0 := by omega
        subst this
        have : ds = [] := List.eq_nil_of_length_eq_zero (by rw [e1, l1]; simp)
        subst this
        simp [tk, closedL]
      · exact closedL_of _ fun j x hj => (hall us e4 j x (tk_get hj)).choose_spec.2.1
    · by_cases h0 : c = 0
      · refine .inl ⟨h0, ?_⟩
        simp [blocksOf, hs, blockOf, ← hcap, h0]
      · rcases l5 with h0' | ⟨b, us, f1, f2, f3, e4, f5⟩
        · omega
        · have hbo : blockOf g id (.row E sz N cs) = some b := by simp [blockOf, ← hcap, h0, f1]
          refine .inr ⟨b, us, by simp [blocksOf, hs, hbo], hA.trans f1, f2, by rw [hcap]; exact f3, fun j x hj => ?_, h3 _ hs b hbo⟩
          obtain ⟨v, q1, q2, q3⟩ := hall us e4 j x (tk_get hj)
          exact ⟨v, q1, q3⟩

theorem give1_sound (hv : Inv w g σ) {x y : AV} {u : Value} {os is : List Nat} (hx : Rep w g x u) (h : give1 σ x = some (y, os, is)) (V : Nat → Prop) (h1 : ∀ b, g.V b → V b) (h2 : ∀ i ∈ is, ∀ s, σ i = some s → ∀ b, blockOf g i s = some b → V b)
    (h3 : ∀ i ∈ os, ∀ s, σ i = some s → ∀ b, blockOf g i s = some b → ¬ V b) : Res1 w V y u (blocksOf g σ os) := by
  have leaf : ∀ {x : AV} {u : Value}, Rep w g x u → deep σ 8 x = some (y, is) → os = [] → Res1 w V y u (blocksOf g σ os) := by
    intro x u hx hd ho
    subst ho
    obtain ⟨k1, k2⟩ := deep_sound hv V h1 8 _ _ _ _ hx hd h2
    cases y
    case o => simp [closed] at k1
    all_goals exact ⟨rfl, k1, k2⟩
  unfold give1 at h
  split at h
  · rename_i id n
    split at h
    · rename_i E sz N cs hs
      split at h
      · rename_i hn
        obtain ⟨⟨ds, js⟩, hd, h⟩ := Option.map_eq_some_iff.1 h
        simp only [Prod.mk.injEq] at h
        obtain ⟨rfl, rfl, rfl⟩ := h
        obtain ⟨A, c, _, _, h⟩ := own_sound hv V h1 hx hs hn hd h2 (h3 id List.mem_cons_self)
        exact h
      · cases h
    · cases h
  · obtain ⟨⟨y', is'⟩, e1, e2⟩ := Option.map_eq_some_iff.1 h
    simp only [Prod.mk.injEq] at e2
    obtain ⟨rfl, rfl, rfl⟩ := e2
    exact leaf hx e1 rfl

theorem blocksOf_append (is js : List Nat) : blocksOf g σ (is ++ js) = blocksOf g σ is ++ blocksOf g σ js := by simp [blocksOf, List.filterMap_append]

theorem giveL_sound (hv : Inv w g σ) (V : Nat → Prop) (h1 : ∀ b, g.V b → V b) : ∀ (xs ys : List AV) (us : List Value) (os is : List Nat), us.length = xs.length → (∀ (j : Nat) (x : AV) (u : Value), xs[j]? = some x → us[j]? = some u → Rep w g x u) → giveL σ xs = some (ys, os, is) →
    (∀ i ∈ is, ∀ s, σ i = some s → ∀ b, blockOf g i s = some b → V b) → (∀ i ∈ os, ∀ s, σ i = some s → ∀ b, blockOf g i s = some b → ¬ V b) → ResL w V ys us (blocksOf g σ os)
  | [], ys, us, os, is, hl, hr, h, h2, h3 => by
    simp only [giveL, Option.some.injEq, Prod.mk.injEq] at h
    obtain ⟨rfl, rfl, rfl⟩ := h
    have : us = [] := List.eq_nil_of_length_eq_zero (by simpa using hl)
    subst this
    exact .nil
  | x :: xs, ys, us, os, is, hl, hr, h, h2, h3 => by
    simp only [giveL] at h
    obtain ⟨⟨y, os1, is1⟩, e1, h⟩ := Option.bind_eq_some_iff.1 h
    obtain ⟨⟨ys', os2, is2⟩, e2, h⟩ := Option.map_eq_some_iff.1 h
    simp only [Prod.mk.injEq] at h
    obtain ⟨rfl, rfl, rfl⟩ := h
    match us, hl with
    | u :: us, hl =>
      rw [blocksOf_append]
      refine .cons (give1_sound hv (hr 0 x u rfl rfl) e1 V h1 (fun i hi => h2 i (List.mem_append_left _ hi)) (fun i hi => h3 i (List.mem_append_left _ hi))) ?_
      exact giveL_sound hv V h1 xs ys' us os2 is2 (by simpa using hl) (fun j x u hj hu => hr (j + 1) x u (by simpa using hj) (by simpa using hu)) e2 (fun i hi => h2 i (List.mem_append_right _ hi)) (fun i hi => h3 i (List.mem_append_right _ hi))

theorem blocksOf_nodup (hv : Inv w g σ) : ∀ (is : List Nat), is.Nodup → (blocksOf g σ is).Nodup
  | [], _ => List.nodup_nil
  | i :: is, h => by
    rw [List.nodup_cons] at h
    have ih := blocksOf_nodup hv is h.2
    have hc : blocksOf g σ (i :: is) = (match (σ i).bind fun s => blockOf g i s with | some b => [b] | none => []) ++ blocksOf g σ is := by
      simp only [blocksOf, List.filterMap_cons]
      cases (σ i).bind fun s => blockOf g i s <;> rfl
    rw [hc]
    cases hb : (σ i).bind fun s => blockOf g i s with
    | none => simpa using ih
    | some b =>
      simp only [List.cons_append, List.nil_append, List.nodup_cons]
      refine ⟨fun hm => ?_, ih⟩
      obtain ⟨j, hj, t, h1, h2⟩ := mem_blocksOf.1 hm
      obtain ⟨s, h3, h4⟩ := Option.bind_eq_some_iff.1 hb
      exact hv.apart i j s t b (fun e => h.1 (e ▸ hj)) h3 h1 h4 h2

end
end Go.Proofs.Ytibjofpgbcbloaa.Ev