/-
Texts Ug to Ug of the work.
-/
import Derived.Test.YtegbkihgnofkfaaGreatDoorZUe
import Derived.Test.YtegbkihgnofkfaaGreatDoorZVa
/-
Code: the reference's builder, told by its terms and loops.
-/
namespace Go.Proofs.YtegbkihgnofkfaaGreatDoor.Ev
section
set_option linter.unusedVariables false
set_option linter.unusedSimpArgs false
open Go Go.RowKit
set_option linter.unusedVariables false
set_option linter.unusedSimpArgs false
structure BR (p : PS) (a b c : RS) : Prop where
  ok : BOk a b c
  an : a.n = p.st.length
  ac : a.cs = p.st.reverse.flatMap encN
  bn : b.n = p.lp.length
  bc : b.cs = p.lp.reverse.map fun q => S [q.1, q.2.1]
  cn : c.n = p.lp.length
  cc : c.cs = p.lp.reverse.map fun q => N (q.2.2 : Int)
theorem BR.base {p : PS} {a b c : RS} (h : BR p a b c) : IsBase c (baseP p.lp) := by
  obtain ⟨st, lp⟩ := p
  have h1 := h.cn
  have h2 := h.cc
  cases lp with
  | nil => exact .inl ⟨h1, rfl⟩
  | cons q l =>
    obtain ⟨x, y, z⟩ := q
    simp only [List.length_cons] at h1
    refine .inr ⟨by omega, (l.reverse.map fun q => N (q.2.2 : Int)), ?_, ?_⟩
    · rw [h2]; simp [baseP]
    · simp; omega
theorem BR.bl {p : PS} {a b c : RS} (h : BR p a b c) (hp : baseP p.lp ≤ p.st.length) : baseP p.lp < 1000000000 := by
  have := h.ok.an
  have := h.an
  omega
theorem pop_br_none {p : PS} {a b c : RS} (h : BR p a b c) (hb : baseP p.lp < 1000000000) (hp : popP p.st (baseP p.lp) = none) :
    EE 102 [lent 118 [rsV a, rsV b, rsV c]] = some (.t [.t [.a zeroN, B false], .t [lent 118 [rsV a, rsV b, rsV c]]]) := by
  refine pop_none a b c h.ok (baseP p.lp) h.base ?_ hb
  rw [h.an]
  cases hs : p.st with
  | nil => simp
  | cons x r =>
    rw [hs] at hp
    simp only [popP] at hp
    split at hp
    · rename_i hle; exact hle
    · cases hp
theorem flat_len (st : List T) : (st.reverse.flatMap encN).length = st.length * 3 := by
  induction st with
  | nil => rfl
  | cons x r ih => simp only [List.reverse_cons, List.flatMap_append, List.flatMap_cons, List.flatMap_nil, List.append_nil, List.length_append, ih, encN_len, List.length_cons]; omega
theorem flat_closed (st : List T) : closedL (st.reverse.flatMap encN) = true := by
  induction st with
  | nil => rfl
  | cons x r ih => simp only [List.reverse_cons, List.flatMap_append, List.flatMap_cons, List.flatMap_nil, List.append_nil, closedL_append, ih, encN_closed, Bool.and_self]
def popR (a : RS) (pa : List AV) : RS := { a with n := a.n - 1, cs := pa }
theorem BR.popped {p : PS} {a b c : RS} (h : BR p a b c) {x : T} {r : List T} (hs : p.st = x :: r) : BR ⟨r, p.lp⟩ (popR a (r.reverse.flatMap encN)) b c := by
  have h1 := h.an
  rw [hs, List.length_cons] at h1
  have ho := h.ok
  have hab : a.b = true := by
    cases hb : a.b
    · have := (ho.ha.2.2 hb).1; omega
    · rfl
  refine ⟨⟨⟨?_, ?_, ?_⟩, ho.hb, ho.hc, ho.aE, ho.aS, ho.bE, ho.bS, ho.cE, ho.cS, ?_, ho.bn, ho.cn⟩, ?_, rfl, h.bn, h.bc, h.cn, h.cc⟩
  · simp only [popR, flat_len, ho.aS]; omega
  · exact flat_closed r
  · simp only [popR, hab]; intro hh; cases hh
  · have := ho.an; simp only [popR]; omega
  · simp only [popR]; omega
theorem pop_br {p : PS} {a b c : RS} (h : BR p a b c) {x : T} {r : List T} (hp : popP p.st (baseP p.lp) = some (x, r)) :
    EE 102 [lent 118 [rsV a, rsV b, rsV c]] = some (.t [.t [.a (encN x), B true], .t [lent 118 [rsV (popR a (r.reverse.flatMap encN)), rsV b, rsV c]]]) := by
  obtain ⟨hs, hle⟩ := popP_some hp
  have h1 := h.an
  rw [hs, List.length_cons] at h1
  refine pop_some a b c h.ok (baseP p.lp) h.base (by omega) (r.reverse.flatMap encN) (encN x) ?_ (encN_len x) (encN_leaf x) ?_
  · rw [h.ac, hs]; simp
  · rw [flat_len, h1]; omega
theorem BR.pushed {p : PS} {a b c : RS} (h : BR p a b c) (x : T) (hb : p.st.length + 1 < 1000000000) : BR ⟨x :: p.st, p.lp⟩ (pushR a (encN x)) b c := by
  have h1 := h.an
  have ho := h.ok
  have e : a.cs ++ encN x = (x :: p.st).reverse.flatMap encN := by rw [h.ac]; simp
  refine ⟨⟨⟨?_, ?_, ?_⟩, ho.hb, ho.hc, rfl, rfl, ho.bE, ho.bS, ho.cE, ho.cS, ?_, ho.bn, ho.cn⟩, ?_, e, h.bn, h.bc, h.cn, h.cc⟩
  · simp only [pushR, e, flat_len, List.length_cons]; omega
  · simp only [pushR, e]; exact flat_closed _
  · intro hh; cases hh
  · simp only [pushR]; omega
  · simp only [pushR, List.length_cons]; omega
theorem push_br {p : PS} {a b c : RS} (h : BR p a b c) (x : T) :
    EE 101 [lent 118 [rsV a, rsV b, rsV c], .a (encN x)] = some (.t [.t [], .t [lent 118 [rsV (pushR a (encN x)), rsV b, rsV c], .a (encN x)]]) :=
  push_ok a b c h.ok (encN x) (encN_len x) (encN_leaf x) (encN_closed x)
theorem pushR_ok {a : RS} {cell : List AV} (h : rsOk a) (hs : a.sz = 3) (hcl : cell.length = 3) (hcc : closedL cell = true) : rsOk (pushR a cell) := by
  refine ⟨?_, ?_, fun hh => by cases hh⟩
  · have := h.1
    rw [hs] at this
    simp only [pushR, List.length_append, this, hcl]; omega
  · simp only [pushR, closedL_append, h.2.1, hcc, Bool.and_self]
theorem in3 {a b c : RS} (ha : rsOk a) (hb : rsOk b) (hc : rsOk c) : ∀ o ∈ [a, b, c], rsOk o := by
  intro o ho
  simp only [List.mem_cons, List.not_mem_nil, or_false] at ho
  rcases ho with rfl | rfl | rfl
  · exact ha
  · exact hb
  · exact hc
/-- What an instruction of one byte is. -/
theorem kind_a {a : UInt8} (h : isDig a = true ∨ isVar a = true) : kindM [a] = 97 := by
  rcases h with h | h <;> simp [kindM, h]
theorem kind_S {a : UInt8} (h : isOne a = true) : kindM [a] = 83 := by
  have := one_not h
  simp [kindM, h, this]
theorem kind_2 {a : UInt8} (h : isTwo a = true) : kindM [a] = 43 := by
  have := two_not h
  simp [kindM, h, this]
theorem kind_end {a : UInt8} (h : a = 93 ∨ a = 125) : kindM [a] = 93 := by
  rcases h with rfl | rfl <;> rfl
end
end Go.Proofs.YtegbkihgnofkfaaGreatDoor.Ev
