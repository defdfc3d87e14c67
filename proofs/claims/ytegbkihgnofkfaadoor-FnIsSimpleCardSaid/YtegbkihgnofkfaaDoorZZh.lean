/-
Texts Zh to Zh of the work.
-/
import Derived.Test.YtegbkihgnofkfaaDoorZZf
import Derived.Test.YtegbkihgnofkfaaDoorZDk
/-
Simplifying to the end: sizes: a rule takes at least one term away; simple terms.
-/
namespace Go.Proofs.YtegbkihgnofkfaaDoor.Ev
section
set_option linter.unusedVariables false
set_option linter.unusedSimpArgs false
open Go Go.RowKit
set_option linter.unusedVariables false
set_option linter.unusedSimpArgs false
theorem pt_size (v : UInt8) (u : T) : ∀ t t', pt v u t = some t' → sizeT t' + fr v t = sizeT t + fr v t * sizeT u
  | .dig c, t', h => by
    obtain rfl := Option.some.inj h
    simp [fr]
  | .var c, t', h => by
    rw [pt] at h
    split at h
    · rename_i hc
      obtain rfl := Option.some.inj h
      simp only [fr, hc, if_true, sizeT]
      omega
    · rename_i hc
      obtain rfl := Option.some.inj h
      simp only [fr, hc, if_false]
      omega
  | .one s x, t', h => by
    rw [pt] at h
    split at h
    · rename_i h0
      obtain rfl := Option.some.inj h
      simp only [fr, h0]
      omega
    · obtain ⟨x', hx, rfl⟩ := Option.map_eq_some_iff.1 h
      have := pt_size v u x x' hx
      simp only [fr, sizeT]
      omega
  | .two s x y, t', h => by
    rw [pt] at h
    split at h
    · rename_i h0
      obtain rfl := Option.some.inj h
      simp only [fr, h0]
      omega
    · obtain ⟨x', hx, h⟩ := Option.bind_eq_some_iff.1 h
      obtain ⟨y', hy, rfl⟩ := Option.map_eq_some_iff.1 h
      have := pt_size v u x x' hx
      have := pt_size v u y y' hy
      simp only [fr, sizeT, Nat.add_mul]
      omega
  | .loop s w x y, t', h => by
    rw [pt] at h
    split at h
    · rename_i h0
      obtain rfl := Option.some.inj h
      rw [h0]
      omega
    · obtain ⟨x', hx, h⟩ := Option.bind_eq_some_iff.1 h
      have h1 := pt_size v u x x' hx
      split at h
      · rename_i hw
        obtain rfl := Option.some.inj h
        simp only [fr, hw, if_true, sizeT, Nat.add_zero]
        omega
      · rename_i hw
        split at h
        · cases h
        · obtain ⟨y', hy, rfl⟩ := Option.map_eq_some_iff.1 h
          have h2 := pt_size v u y y' hy
          simp only [fr, hw, if_false, sizeT, Nat.add_mul]
          omega
theorem fuM_size {v w : UInt8} {a b u r : T} (h : fuM v w a b u = some r) : sizeT r < sizeT (.loop 91 v (.loop 91 w a b) u) := by
  unfold fuM at h
  split at h
  · cases h
  · rename_i hn
    obtain ⟨p, hp, rfl⟩ := Option.map_eq_some_iff.1 h
    have hl := pt_size v b u p hp
    have hb := size_pos b
    simp only [sizeT]
    have hf : fr v u = 0 ∨ fr v u = 1 := by
      have : ¬ 1 < fr v u := fun h => hn (.inl h)
      omega
    rcases hf with e | e <;> rw [e] at hl <;> omega
/-- What a rule makes has fewer terms. -/
theorem ruleT_size {t : T} {k : Nat} {u : T} (h : ruleT t = some (k, u)) : sizeT u < sizeT t := by
  cases t with
  | dig c => cases h
  | var c => cases h
  | one s x =>
    simp only [ruleT] at h
    cases x with
    | one q z =>
      simp only [oneM] at h
      split at h
      · split at h
        · simp only [Option.some.injEq, Prod.mk.injEq] at h
          obtain ⟨rfl, rfl⟩ := h
          simp only [sizeT]; omega
        · split at h
          · simp only [Option.some.injEq, Prod.mk.injEq] at h
            obtain ⟨rfl, rfl⟩ := h
            simp only [sizeT]; omega
          · cases h
      · cases h
    | loop q w a b =>
      simp only [oneM] at h
      split at h
      · simp only [Option.some.injEq, Prod.mk.injEq] at h
        obtain ⟨rfl, rfl⟩ := h
        have := size_pos b
        simp only [sizeT]; omega
      · cases h
    | dig c => cases h
    | var c => cases h
    | two q a b => cases h
  | two s x y =>
    have h1 := size_pos x
    have h2 := size_pos y
    simp only [ruleT] at h
    split at h
    · simp only [Option.some.injEq, Prod.mk.injEq] at h
      obtain ⟨rfl, rfl⟩ := h
      simp only [sizeT]; omega
    · obtain ⟨q, hq, hk⟩ := Option.map_eq_some_iff.1 h
      simp only [Prod.mk.injEq] at hk
      obtain ⟨rfl, rfl⟩ := hk
      rcases neuM_wf hq with rfl | rfl <;> simp only [sizeT] <;> omega
  | loop s v x y =>
    have h1 := size_pos y
    simp only [ruleT] at h
    split at h
    · simp only [Option.some.injEq, Prod.mk.injEq] at h
      obtain ⟨rfl, rfl⟩ := h
      simp only [sizeT]; omega
    · obtain ⟨q, hq, hk⟩ := Option.map_eq_some_iff.1 h
      simp only [Prod.mk.injEq] at hk
      obtain ⟨rfl, rfl⟩ := hk
      cases x with
      | loop q' w a b =>
        simp only [fuseM] at hq
        split at hq
        · rename_i hs
          obtain ⟨rfl, rfl⟩ := hs
          exact fuM_size hq
        · cases hq
      | dig c => cases hq
      | var c => cases hq
      | one q' z => cases hq
      | two q' a b => cases hq
/-! ### the counts -/
theorem sum_nn : ∀ {l : List Int}, (∀ x ∈ l, 0 ≤ x) → 0 ≤ l.sum ∧ ∀ x ∈ l, x ≤ l.sum
  | [], _ => ⟨by simp, fun x h => by cases h⟩
  | y :: l, h => by
    obtain ⟨h1, h2⟩ := sum_nn (l := l) fun x hx => h x (List.mem_cons_of_mem _ hx)
    have hy := h y List.mem_cons_self
    rw [List.sum_cons]
    refine ⟨by omega, fun x hx => ?_⟩
    rcases List.mem_cons.1 hx with rfl | hx
    · omega
    · have := h2 x hx
      omega
theorem sum_set : ∀ {c : List Int} {k : Nat} {n : Int} (y : Int), c[k]? = some n → (c.set k y).sum = c.sum + (y - n)
  | [], k, n, y, h => by simp at h
  | x :: c, 0, n, y, h => by
    simp only [List.getElem?_cons_zero, Option.some.injEq] at h
    subst h
    simp only [List.set_cons_zero, List.sum_cons]
    omega
  | x :: c, k + 1, n, y, h => by
    simp only [List.getElem?_cons_succ] at h
    simp only [List.set_cons_succ, List.sum_cons, sum_set y h]
    omega
/-- What is so of counts as they grow. -/
structure CInv (t : T) (l : List Int) (q : T × List Int) : Prop where
  nn : ∀ x ∈ q.2, 0 ≤ x
  sz : (sizeT q.1 : Int) + q.2.sum ≤ sizeT t + l.sum
  tx : ((textT q.1).length : Int) + q.2.sum ≤ (textT t).length + l.sum
  le : l.sum ≤ q.2.sum
  eq : q.2.sum = l.sum → q = (t, l)
  z0 : q.2[0]? = l[0]?
theorem incC_inv {k : Nat} {c : List Int} (h0 : 0 < k) (hk : k < c.length) (hn : ∀ x ∈ c, 0 ≤ x) (hs : c.sum ≤ 1000000000) : (incC k c).sum = c.sum + 1 ∧ (∀ x ∈ incC k c, 0 ≤ x) ∧ (incC k c)[0]? = c[0]? := by
  obtain ⟨n, hx⟩ : ∃ n, c[k]? = some n := ⟨c[k], List.getElem?_eq_getElem hk⟩
  have hmem : n ∈ c := List.mem_of_getElem? hx
  have h1 := hn n hmem
  have h2 := (sum_nn hn).2 n hmem
  have hw : IntKind.i64.wrap (n + 1) = n + 1 := wrap64 (by omega) (by omega)
  unfold incC
  rw [hx]
  simp only [hw]
  refine ⟨by rw [sum_set _ hx]; omega, fun x hx' => ?_, ?_⟩
  · rcases List.mem_or_eq_of_mem_set hx' with h | rfl
    · exact hn x h
    · omega
  · rw [List.getElem?_set_ne (by omega)]
theorem partsF_inv {n : Nat} {f : T × List Int → T × List Int} (hf : ∀ (x : T) (l : List Int), WF x → (textT x).length ≤ n → l.length = 7 → (∀ y ∈ l, 0 ≤ y) → l.sum + (textT x).length ≤ 1000000000 → CInv x l (f (x, l)) ∧ WF (f (x, l)).1 ∧ (f (x, l)).2.length = 7) {t : T} (hw : WF t) (hl : (textT t).length ≤ n + 1) {l : List Int} (h7 : l.length = 7) (hn : ∀ y ∈ l, 0 ≤ y) (hs : l.sum + (textT t).length ≤ 1000000000) : CInv t l (partsF f t l) := by
  cases t with
  | dig c => exact ⟨hn, Int.le_refl _, Int.le_refl _, Int.le_refl _, fun _ => rfl, rfl⟩
  | var c => exact ⟨hn, Int.le_refl _, Int.le_refl _, Int.le_refl _, fun _ => rfl, rfl⟩
  | one s x =>
    simp only [textT, List.length_cons] at hl hs
    obtain ⟨h, _, _⟩ := hf x l hw.2 (by omega) h7 hn (by omega)
    refine ⟨h.nn, ?_, ?_, h.le, fun e => ?_, h.z0⟩
    · have := h.sz
      simp only [partsF, sizeT]
      omega
    · have := h.tx
      simp only [partsF, textT, List.length_cons]
      omega
    · have := h.eq e
      simp only [partsF]
      rw [this]
  | two s x y =>
    simp only [textT, List.length_cons, List.length_append, List.length_nil] at hl hs
    obtain ⟨h, h2, h3⟩ := hf x l hw.2.1 (by omega) h7 hn (by omega)
    have htx := h.tx
    have hsz := h.sz
    have hle := h.le
    have hp1 := text_pos (f (x, l)).1
    obtain ⟨k, k2, k3⟩ := hf y (f (x, l)).2 hw.2.2 (by omega) h3 h.nn (by omega)
    have ktx := k.tx
    have ksz := k.sz
    have kle := k.le
    refine ⟨k.nn, ?_, ?_, ?_, fun e => ?_, k.z0.trans h.z0⟩
    · simp only [partsF, sizeT]
      omega
    · simp only [partsF, textT, List.length_cons, List.length_append, List.length_nil]
      omega
    · simp only [partsF]
      omega
    · simp only [partsF] at e
      have e1 := h.eq (by omega)
      have e2 := k.eq (by omega)
      simp only [partsF]
      rw [e1] at e2
      simp only at e2
      rw [e1]
      simp only
      rw [e2]
  | loop s v x y =>
    simp only [textT, List.length_cons, List.length_append, List.length_nil] at hl hs
    obtain ⟨h, h2, h3⟩ := hf x l hw.2.2.1 (by omega) h7 hn (by omega)
    have htx := h.tx
    have hsz := h.sz
    have hle := h.le
    have hp1 := text_pos (f (x, l)).1
    obtain ⟨k, k2, k3⟩ := hf y (f (x, l)).2 hw.2.2.2 (by omega) h3 h.nn (by omega)
    have ktx := k.tx
    have ksz := k.sz
    have kle := k.le
    refine ⟨k.nn, ?_, ?_, ?_, fun e => ?_, k.z0.trans h.z0⟩
    · simp only [partsF, sizeT]
      omega
    · simp only [partsF, textT, List.length_cons, List.length_append, List.length_nil]
      omega
    · simp only [partsF]
      omega
    · simp only [partsF] at e
      have e1 := h.eq (by omega)
      have e2 := k.eq (by omega)
      simp only [partsF]
      rw [e1] at e2
      simp only at e2
      rw [e1]
      simp only
      rw [e2]
theorem simpF_inv : ∀ (n : Nat) (t : T) (l : List Int), WF t → (textT t).length ≤ n → l.length = 7 → (∀ y ∈ l, 0 ≤ y) → l.sum + (textT t).length ≤ 1000000000 → CInv t l (simpF n (t, l))
  | 0, t, l, hw, hl, _, _, _ => by
    have := text_pos t
    omega
  | n + 1, t, l, hw, hl, h7, hn, hs => by
    have hfit := partsF_fit (n := n) (f := simpF n) (fun x l hx hlx => simpF_fit n x l hx hlx) hw hl l
    have hp := partsF_inv (n := n) (f := simpF n) (fun x l hx hlx h7 hn hs => ⟨simpF_inv n x l hx hlx h7 hn hs, (simpF_fit n x l hx hlx).wf, (simpF_fit n x l hx hlx).ln.trans h7⟩) hw hl h7 hn hs
    simp only [simpF]
    cases hr : ruleT (partsF (simpF n) t l).1 with
    | none => exact hp
    | some q =>
      obtain ⟨k, u⟩ := q
      obtain ⟨h1, h2, h3⟩ := ruleT_wf hfit.wf hr
      have hsz := ruleT_size hr
      have hk := ruleT_le hr
      have htx := hp.tx
      have hps := hp.sz
      have hle := hfit.le
      have hpl := hp.le
      have hl0 := (sum_nn hn).1
      have c7 : (partsF (simpF n) t l).2.length = 7 := hfit.ln.trans h7
      obtain ⟨i1, i2, i3⟩ := incC_inv (c := (partsF (simpF n) t l).2) h3 (by omega) hp.nn (by omega)
      have h := simpF_inv n u (incC k (partsF (simpF n) t l).2) h1 (by omega) ((incC_len _ _).trans c7) i2 (by omega)
      have a1 := h.sz
      have a2 := h.tx
      have a3 := h.le
      simp only
      refine ⟨h.nn, by omega, by omega, by omega, fun e => ?_, h.z0.trans (i3.trans hp.z0)⟩
      exfalso
      omega
theorem partsF_congr {n : Nat} {f g : T × List Int → T × List Int} (hf : ∀ x l, WF x → (textT x).length ≤ n → f (x, l) = g (x, l)) {t : T} (hw : WF t) (hl : (textT t).length ≤ n + 1) (l : List Int) : partsF f t l = partsF g t l := by
  cases t with
  | dig c => rfl
  | var c => rfl
  | one s x =>
    simp only [textT, List.length_cons] at hl
    simp only [partsF, hf x l hw.2 (by omega)]
  | two s x y =>
    simp only [textT, List.length_cons, List.length_append, List.length_nil] at hl
    simp only [partsF, hf x l hw.2.1 (by omega), hf y _ hw.2.2 (by omega)]
  | loop s v x y =>
    simp only [textT, List.length_cons, List.length_append, List.length_nil] at hl
    simp only [partsF, hf x l hw.2.2.1 (by omega), hf y _ hw.2.2.2 (by omega)]
theorem simpF_more : ∀ (n : Nat) (t : T) (l : List Int), WF t → (textT t).length ≤ n → ∀ m, n ≤ m → simpF m (t, l) = simpF n (t, l)
  | 0, t, l, hw, hl, _, _ => by
    have := text_pos t
    omega
  | n + 1, t, l, hw, hl, m, hm => by
    obtain ⟨m, rfl⟩ : ∃ k, m = k + 1 := ⟨m - 1, by omega⟩
    have hc := partsF_congr (n := n) (f := simpF m) (g := simpF n) (fun x l hx hlx => simpF_more n x l hx hlx m (by omega)) hw hl l
    have hfit := partsF_fit (n := n) (f := simpF n) (fun x l hx hlx => simpF_fit n x l hx hlx) hw hl l
    simp only [simpF]
    rw [hc]
    cases hr : ruleT (partsF (simpF n) t l).1 with
    | none => rfl
    | some q =>
      obtain ⟨k, u⟩ := q
      obtain ⟨h1, h2, _⟩ := ruleT_wf hfit.wf hr
      have := hfit.le
      exact simpF_more n u _ h1 (by omega) m (by omega)
/-- A term that stays: no rule applies, and its parts stay. -/
theorem simpF_fix {n : Nat} {t : T} {l : List Int} (hw : WF t) (hl : (textT t).length ≤ n + 1) (h7 : l.length = 7) (hn : ∀ y ∈ l, 0 ≤ y) (hs : l.sum + (textT t).length ≤ 1000000000) (h : simpF (n + 1) (t, l) = (t, l)) : partsF (simpF n) t l = (t, l) ∧ ruleT t = none := by
  have hfit := partsF_fit (n := n) (f := simpF n) (fun x l hx hlx => simpF_fit n x l hx hlx) hw hl l
  have hp := partsF_inv (n := n) (f := simpF n) (fun x l hx hlx h7 hn hs => ⟨simpF_inv n x l hx hlx h7 hn hs, (simpF_fit n x l hx hlx).wf, (simpF_fit n x l hx hlx).ln.trans h7⟩) hw hl h7 hn hs
  simp only [simpF] at h
  cases hr : ruleT (partsF (simpF n) t l).1 with
  | none =>
    rw [hr] at h
    simp only at h
    rw [h] at hr
    exact ⟨h, hr⟩
  | some q =>
    exfalso
    obtain ⟨k, u⟩ := q
    obtain ⟨h1, h2, h3⟩ := ruleT_wf hfit.wf hr
    have hk := ruleT_le hr
    have htx := hp.tx
    have hle := hfit.le
    have hpl := hp.le
    have hl0 := (sum_nn hn).1
    have c7 : (partsF (simpF n) t l).2.length = 7 := hfit.ln.trans h7
    obtain ⟨i1, i2, i3⟩ := incC_inv (c := (partsF (simpF n) t l).2) h3 (by omega) hp.nn (by omega)
    have k := simpF_inv n u (incC k (partsF (simpF n) t l).2) h1 (by omega) ((incC_len _ _).trans c7) i2 (by omega)
    rw [hr] at h
    simp only at h
    have a3 := k.le
    rw [h] at a3
    simp only at a3
    omega
/-- Simple: nothing is done to it. -/
def Simple (x : T) : Prop := doneX x = (x, c0)
theorem c0_nn : ∀ y ∈ c0, 0 ≤ y := by decide
theorem c0_sum : c0.sum = 0 := by decide
theorem done_inv {t : List UInt8} {x : T} (hr : rdT t = some x) : CInv x c0 (doneX x) := by
  have hl := rd_len hr
  exact simpF_inv 80 x c0 (rdT_wf hr).1 hl rfl c0_nn (by rw [c0_sum]; omega)
theorem isSimple_iff {t : List UInt8} {x : T} (hr : rdT t = some x) : (isSimpX t = true ↔ (doneX x).2.sum = 0) ∧ ((doneX x).2.sum = 0 ↔ Simple x) := by
  have h := done_inv hr
  have htx := h.tx
  have hle := h.le
  have h0 := c0_sum
  have heq : (doneX x).2.sum = 0 → Simple x := fun e => h.eq (by rw [e, c0_sum])
  refine ⟨⟨fun hs => ?_, fun hs => ?_⟩, heq, fun hs => ?_⟩
  · unfold isSimpX simpX at hs
    rw [hr] at hs
    simp only [Bool.true_and, beq_iff_eq] at hs
    rw [hs, ← rdT_text hr] at htx
    omega
  · have hq := heq hs
    unfold isSimpX simpX
    rw [hr]
    simp only [Bool.true_and, beq_iff_eq]
    rw [hq]
    exact (rdT_text hr).symm
  · rw [hs]
    exact c0_sum
theorem simple_of {x : T} (hw : WF x) (hl : (textT x).length ≤ 79) (h : simpF 79 (x, c0) = (x, c0)) : Simple x := by
  unfold Simple doneX
  rw [simpF_more 79 x c0 hw hl 80 (by decide)]
  exact h
/-- The parts of a simple term are simple, and no rule applies to it. -/
theorem simple_parts {x : T} (hw : WF x) (hl : (textT x).length ≤ 80) (h : Simple x) : ruleT x = none ∧ (∀ s y, x = .one s y → Simple y) ∧ (∀ s y z, x = .two s y z → Simple y ∧ Simple z) ∧ ∀ s v y z, x = .loop s v y z → Simple y ∧ Simple z := by
  have hf := simpF_fix (n := 79) hw hl rfl c0_nn (by rw [c0_sum]; omega) h
  obtain ⟨hp, hr⟩ := hf
  have two : ∀ {y z : T}, WF y → WF z → (textT y).length + (textT z).length ≤ 77 → (simpF 79 (y, c0)).1 = y → (simpF 79 (z, (simpF 79 (y, c0)).2)) = (z, c0) → Simple y ∧ Simple z := by
    intro y z wy wz hlen e1 e2
    have hy := simpF_inv 79 y c0 wy (by omega) rfl c0_nn (by rw [c0_sum]; omega)
    have hfy := simpF_fit 79 y c0 wy (by omega)
    have htx := hy.tx
    have hz := simpF_inv 79 z (simpF 79 (y, c0)).2 wz (by omega) (hfy.ln.trans rfl) hy.nn (by rw [c0_sum] at htx; omega)
    have a1 := hy.le
    have a2 := hz.le
    rw [e2] at a2
    simp only at a2
    have e3 := hy.eq (by omega)
    refine ⟨simple_of wy (by omega) e3, simple_of wz (by omega) ?_⟩
    rw [e3] at e2
    exact e2
  refine ⟨hr, fun s y e => ?_, fun s y z e => ?_, fun s v y z e => ?_⟩
  · subst e
    simp only [textT, List.length_cons] at hl
    simp only [partsF, Prod.mk.injEq, T.one.injEq, true_and] at hp
    exact simple_of hw.2 (by omega) (Prod.ext hp.1 hp.2)
  · subst e
    simp only [textT, List.length_cons, List.length_append, List.length_nil] at hl
    simp only [partsF, Prod.mk.injEq, T.two.injEq, true_and] at hp
    exact two hw.2.1 hw.2.2 (by omega) hp.1.1 (Prod.ext hp.1.2 hp.2)
  · subst e
    simp only [textT, List.length_cons, List.length_append, List.length_nil] at hl
    simp only [partsF, Prod.mk.injEq, T.loop.injEq, true_and] at hp
    exact two hw.2.2.1 hw.2.2.2 (by omega) hp.1.1 (Prod.ext hp.1.2 hp.2)
end
end Go.Proofs.YtegbkihgnofkfaaDoor.Ev
