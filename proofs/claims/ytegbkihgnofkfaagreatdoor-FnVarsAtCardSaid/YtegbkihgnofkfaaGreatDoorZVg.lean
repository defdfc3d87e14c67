/-
Texts Vg to Vg of the work.
-/
import Derived.Test.YtegbkihgnofkfaaGreatDoorZVd
/-
Code: the implementation's loop: terms are made.
-/
namespace Go.Proofs.YtegbkihgnofkfaaGreatDoor.Ev
section
set_option linter.unusedVariables false
set_option linter.unusedSimpArgs false
open Go Go.RowKit
set_option linter.unusedVariables false
set_option linter.unusedSimpArgs false
theorem AllP.one {l : List AV} {t : T} (h : AllP l [t]) : ∃ p, l = [p] ∧ IsP p t := by
  cases h with
  | cons h k => cases k; exact ⟨_, rfl, h⟩
theorem AllP.two {l : List AV} {t u : T} (h : AllP l [t, u]) : ∃ p q, l = [p, q] ∧ IsP p t ∧ IsP q u := by
  cases h with
  | cons h k =>
    obtain ⟨q, rfl, hq⟩ := k.one
    exact ⟨_, q, rfl, h, hq⟩
theorem AllP.none {l : List AV} (h : AllP l []) : l = [] := by cases h; rfl
/-- The stack behind a round. -/
theorem stk_next {σ' : Sto} {all : List AV} {st : List T} {m id2 kb k2 : Nat} {s v : List UInt8} {t' : T} (hall : AllP all st.reverse) (hm : m ≤ st.length) (h1 : σ' id2 = some (.row 78 1 (st.length - m + 1) (all.take (st.length - m) ++ [.r kb 0])))
    (h2 : σ' kb = some (.ob 80 [S s, S v, .w k2 0 m])) (h3 : σ' k2 = some (.row 78 1 m ((all.drop (st.length - m)).take m))) (hp : IsP (.p [S s, S v, .s false m ((all.drop (st.length - m)).take m)]) t') (n1 : id2 ≠ kb) (n2 : id2 ≠ k2) (n3 : kb ≠ k2) :
    StkOk σ' (.w id2 0 (st.length - m + 1)) (t' :: st.drop m) [id2, kb, k2] := by
  have hl : all.length = st.length := by rw [hall.len]; simp
  have e1 : (st.drop m).length + 1 = st.length - m + 1 := by simp
  refine .inr ⟨id2, kb, k2, all.take (st.length - m), t', st.drop m, ⟨s, v, m, (all.drop (st.length - m)).take m, h2, h3, ?_, ?_, hp⟩, rfl, by rw [e1], by rw [e1]; exact h1, ?_, rfl, n1, n2, n3⟩
  · exact ((hall.drop _).take _).closed
  · simp only [List.length_take, List.length_drop]; omega
  · have := hall.take (st.length - m)
    rwa [List.take_reverse, show st.length - (st.length - m) = m by omega] at this
theorem pc_of {all : List AV} {st : List T} {m : Nat} (hall : AllP all st.reverse) (hm : m ≤ st.length) : AllP ((all.drop (st.length - m)).take m) (st.take m).reverse := by
  have h := (hall.drop (st.length - m)).take m
  rw [List.drop_reverse, show st.length - (st.length - m) = m by omega, List.take_of_length_le (i := m) (l := (st.take m).reverse) (by simp; omega)] at h
  exact h
def Obj1.frame {σ τ : Sto} {k k' : Nat} {t : T} (o : Obj1 σ k k' t) (h1 : τ k = σ k) (h2 : τ k' = σ k') : Obj1 τ k k' t := ⟨o.s, o.v, o.m, o.pc, by rw [h1, o.hk], by rw [h2, o.hk'], o.hc, o.hl, o.hp⟩
theorem clone_key (σ : Sto) (key id k k' N n : Nat) (ds cs : List AV) : cloneS σ key id k k' N n ds cs key = some (.row 78 1 n cs) := by simp [cloneS, upd]
theorem clone_id {σ : Sto} {key id k k' N n : Nat} {ds cs : List AV} (h : id ≠ key) : cloneS σ key id k k' N n ds cs id = some (.row 78 1 N ds) := by simp [cloneS, upd, h]
theorem clone_other {σ : Sto} {key id k k' N n : Nat} {ds cs : List AV} {j : Nat} (h1 : j ≠ key) (h2 : j ≠ id) (h3 : j ≠ k) (h4 : j ≠ k') : cloneS σ key id k k' N n ds cs j = σ j := by simp [cloneS, upd, killL, frz, h1, h2, h3, h4]
theorem call_cloned {pf' : FuncId → Nat} {σ σ1 : Sto} {key id lo n k k' N : Nat} {t : T} {cl : List AV} (o : Obj1 σ k k' t) (hp : pf' 51 = 2) (hk : σ1 k = σ k) (hk' : σ1 k' = σ k') (hcl : closedL cl = true) (hcf : cl.all leafOk = true) (hN : cl.length + 1 = N) (hσ : σ1 id = some (.row 78 1 N (cl ++ [.r k 0])))
    (h1 : id ≠ k) (h2 : id ≠ k') (h3 : k ≠ k') (hln : lo + n ≤ N) (hn : n ≤ 1000000) :
    callOp EE pf' σ1 key 51 [.w id lo n] = some (.w key 0 n, cloneS σ1 key id k k' N n (cl ++ [o.ptr]) (((cl ++ [o.ptr]).drop lo).take n)) := by
  subst hN
  exact call_clone hp (o.frame hk hk') hcl hcf hσ h1 h2 h3 hln hn
/-- The run at an instruction of one byte that ends nothing; the stack is not empty. -/
theorem TermOf_one (kL : Nat) (L : List (List UInt8)) (hL : L.length < 100000000) (x : UInt8) (r : List (List UInt8)) (i n : Nat) (st : List T) (op : List (UInt8 × UInt8)) (ids : List Nat) (e : Nat → AV) (σ : Sto) (nx : Nat) (q : Option (Ex × St)) (av : AV)
    (hd : L.drop i = [x] :: r) (hst : st.length ≤ i) (hop : op.length ≤ i) (hI : SI kL L i st op ids e σ nx) (h0 : e 0 = av)
    (hq : roundsE (evC II EE (withOpt [oPl 52] pf) MX (bodyL Tryz.f36 0)) (n + 1) ⟨e, σ, nx⟩ = q) (he : endM [x] = false) (m : Nat) (ha : arM [x] = (m : Int)) (hm : m ≤ st.length) (hm2 : m ≤ 2) (hne : st ≠ []) (t' : T)
    (hp : ∀ pc, AllP pc (st.take m).reverse → IsP (.p [S [x], S [], .s false m pc]) t') :
    ∃ e' σ' nx' ids', roundsE (evC II EE (withOpt [oPl 52] pf) MX (bodyL Tryz.f36 0)) n ⟨e', σ', nx'⟩ = q ∧ SI kL L (i + 1) (t' :: st.drop m) op ids' e' σ' nx' ∧ e' 0 = av := by
  obtain ⟨hi, hx, hd'⟩ := strs_drop_head hd
  rw [rounds_rd] at hq
  have hc : ((i : Int) < (L.length : Int)) := by omega
  have hz : (0 : Int) ≤ (i : Int) := by omega
  have hhd : ((strs L).drop i).head? = some (S [x]) := by rw [strs_drop, hd]; rfl
  have hw : IntKind.i64.wrap ((i : Int) + 1) = ((i + 1 : Nat) : Int) := by rw [wrap64 (by omega) (by omega)]; rfl
  have h20 := hI.e20
  have h21 := hI.e21
  have h22 := hI.e22
  have hsL := hI.sL
  have h5 := hI.h5
  have hbe : EE 15 [S [x]] = some (B false) := begins_ev [x]
  have hen := isEnd_ev [x]
  rw [he] at hen
  have har := arity_ev x
  rw [ha] at har
  simp only [bodyL, bodyOf, Tryz.f36, SA, loops, List.nil_append, List.append_nil, List.cons_append, List.getD_cons_zero, List.getD_cons_succ] at hq
  rcases hI.h4 with ⟨_, h, _⟩ | ⟨id, k, k', cl, t, r0, o, rfl, h4, hσ, hcl, rfl, n1, n2, n3⟩
  · exact absurd h hne
  have hlm : ¬ (((r0.length + 1 : Nat) : Int) < (m : Int)) := by simp only [List.length_cons] at hm; omega
  have hws : IntKind.i64.wrap (((r0.length + 1 : Nat) : Int) - (m : Int)) = ((r0.length + 1 - m : Nat) : Int) := by
    simp only [List.length_cons] at hm hst
    rw [wrap64 (by omega) (by omega)]; omega
  simp only [h20, h21, h22, hsL, hc, hz, hhd, hbe, hen, har, h4, hlm, hws, TMA, Int.toNat_natCast, Nat.mul_one, Nat.zero_add, cut_w_lo, RR, IA, PA, RA0, RA1, RA2, RA3, RA4, RA5, RA6, RA7, RA8, RA9, RA10, Nat.reduceAdd, Nat.reduceMul, Nat.reduceEqDiff, Nat.reduceLeDiff, Nat.reduceLT, Int.reduceToNat, Int.reduceLT, Int.reduceLE, Int.reduceEq, Int.reduceNeg, Int.reduceAdd, Int.reduceSub, Int.reduceMul, reduceIte] at hq
  have hcll : cl.length = r0.length := by rw [hcl.len]; simp
  have hmr : m ≤ r0.length + 1 := hm
  have hNm : r0.length + 1 - (r0.length + 1 - m) = m := by omega
  have hcon : (0 : Int) ≤ ((r0.length + 1 - m : Nat) : Int) ∧ ((r0.length + 1 - m : Nat) : Int) ≤ ((r0.length + 1 : Nat) : Int) := ⟨by omega, by omega⟩
  rw [if_pos hcon] at hq
  simp only [hNm, RR, IA, PA, RA0, RA1, RA2, RA3, RA4, RA5, RA6, RA7, RA8, RA9, RA10, Nat.reduceAdd, Nat.reduceMul, Nat.reduceEqDiff, Nat.reduceLeDiff, Nat.reduceLT, Int.reduceToNat, Int.reduceLT, Int.reduceLE, Int.reduceEq, Int.reduceNeg, Int.reduceAdd, Int.reduceSub, Int.reduceMul, reduceIte] at hq
  obtain ⟨g1, g2, g3⟩ := hI.idn id (by simp)
  obtain ⟨gk1, gk2, gk3⟩ := hI.idn k (by simp)
  obtain ⟨gp1, gp2, gp3⟩ := hI.idn k' (by simp)
  have hkLn := hI.kLn
  have hst2 : r0.length + 1 ≤ i := hst
  rw [call_cloned o (by rfl) (by rw [upd, if_neg (by omega)]) (by rw [upd, if_neg (by omega)]) hcl.closed hcl.leaf (by rw [hcll]) (by rw [upd, if_neg (by omega), hσ]) n1 n2 n3 (by omega) (by omega)] at hq
  generalize hτ : cloneS _ _ _ _ _ _ _ _ _ = τ at hq
  have t1 := (congrFun hτ _).symm.trans (clone_key ..)
  have t2 := (congrFun hτ id).symm.trans (clone_id (by omega))
  have t3 : ∀ j, j ≠ _ → j ≠ id → j ≠ k → j ≠ k' → τ j = _ := fun j h1 h2 h3 h4 => (congrFun hτ j).symm.trans (clone_other h1 h2 h3 h4)
  clear hτ
  have t4 := t3 (nx + 4 + 12 + 8 + 64 + 8) (by omega) (by omega) (by omega) (by omega)
  rw [upd, if_pos rfl] at t4
  simp only [t4, h4, hws, cut_w_hi, RR, IA, PA, RA0, RA1, RA2, RA3, RA4, RA5, RA6, RA7, RA8, RA9, RA10, Nat.reduceAdd, Nat.reduceMul, Nat.reduceEqDiff, Nat.reduceLeDiff, Nat.reduceLT, Int.reduceToNat, Int.reduceLT, Int.reduceLE, Int.reduceEq, Int.reduceNeg, Int.reduceAdd, Int.reduceSub, Int.reduceMul, reduceIte] at hq
  rw [if_pos hcon] at hq
  have hall : AllP (cl ++ [o.ptr]) (t :: r0).reverse := by
    rw [List.reverse_cons]
    exact hcl.app (.cons o.hp .nil)
  have hal : (cl ++ [o.ptr]).length = r0.length + 1 := by rw [hall.len]; simp
  rw [app_part (n' := r0.length + 1) (cs := cl ++ [o.ptr]) (by rw [upd, if_neg (by omega)]; exact t2) (by decide) (by rfl) (by rfl) (by show (r0.length + 1 - m) * 1 ≤ _; rw [hal]; omega) (by omega) (by omega) (by omega)] at hq
  simp only [h22, hw, RR, IA, PA, RA0, RA1, RA2, RA3, RA4, RA5, RA6, RA7, RA8, RA9, RA10, Nat.reduceAdd, Nat.reduceMul, Nat.reduceEqDiff, Nat.reduceLeDiff, Nat.reduceLT, Int.reduceToNat, Int.reduceLT, Int.reduceLE, Int.reduceEq, Int.reduceNeg, Int.reduceAdd, Int.reduceSub, Int.reduceMul, reduceIte] at hq
  have e1 : r0.length + 1 - m = (t :: r0).length - m := rfl
  refine ⟨_, _, _, [nx + 4 + 12 + 8 + 64 + 28 + 8 + 16 + 44 + 32, nx + 4 + 12 + 8 + 64 + 8, nx + 4 + 12 + 8 + 64 + 28 + 8 + 16 + 28], hq, ⟨h20, ?_, by omega, h21, rfl, ?_, ?_, ?_, hI.o5⟩, h0⟩
  · simp only [upd]
    rw [if_neg (by omega), if_neg (by omega), if_neg (by omega), t3 kL (by omega) (by omega) (by omega) (by omega), upd, if_neg (by omega), hsL]
  · change StkOk _ (.w (nx + 4 + 12 + 8 + 64 + 28 + 8 + 16 + 44 + 32) 0 ((t :: r0).length - m + 1)) (t' :: (t :: r0).drop m) _
    refine stk_next (id2 := nx + 4 + 12 + 8 + 64 + 28 + 8 + 16 + 44 + 32) (kb := nx + 4 + 12 + 8 + 64 + 8) (k2 := nx + 4 + 12 + 8 + 64 + 28 + 8 + 16 + 28) (s := [x]) (v := []) (all := cl ++ [o.ptr]) hall hm ?_ ?_ ?_ (hp _ (pc_of hall hm)) (by omega) (by omega) (by omega)
    · simp only [upd, if_true, Nat.mul_one]
      rfl
    · simp only [upd]
      rw [if_neg (by omega), if_neg (by omega)]
      simp only [if_true]
    · simp only [upd]
      rw [if_neg (by omega), if_neg (by omega), if_neg (by omega), t1]
      rfl
  · refine h5.frame (fun j hj => ?_) (by omega)
    have q1 := h5.n j hj
    have q2 : j ≠ id := fun e => g3 (e ▸ hj)
    have q3 : j ≠ k := fun e => gk3 (e ▸ hj)
    have q4 : j ≠ k' := fun e => gp3 (e ▸ hj)
    simp only [upd]
    rw [if_neg (by omega), if_neg q2, if_neg (by omega), t3 j (by omega) q2 q3 q4, upd, if_neg (by omega)]
  · intro j hj
    have hown : ∀ j ∈ own (e 5), j < nx := h5.n
    simp only [List.mem_cons, List.not_mem_nil, or_false] at hj
    refine ⟨by omega, by omega, fun h => ?_⟩
    have := hown j h
    omega
end
end Go.Proofs.YtegbkihgnofkfaaGreatDoor.Ev
