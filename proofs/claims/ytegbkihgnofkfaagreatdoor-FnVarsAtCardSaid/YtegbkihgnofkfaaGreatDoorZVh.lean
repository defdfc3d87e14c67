/-
Texts Vh to Vh of the work.
-/
import Derived.Test.YtegbkihgnofkfaaGreatDoorZVg
/-
Code: the implementation's loop: the first term, too few terms, ends of loops.
-/
namespace Go.Proofs.YtegbkihgnofkfaaGreatDoor.Ev
section
set_option linter.unusedVariables false
set_option linter.unusedSimpArgs false
open Go Go.RowKit
set_option linter.unusedVariables false
set_option linter.unusedSimpArgs false
theorem call_clone0 {pf' : FuncId → Nat} {σ : Sto} {key : Nat} (hp : pf' 51 = 2) :
    callOp EE pf' σ key 51 [.s true 0 []] = some (.w key 0 0, upd σ key (some (.row 78 1 0 []))) := by
  have hE : EE 51 [.s true 0 []] = some (.t [.o 78 1 0 [], .t [.s true 0 []]]) := EE_hand rfl
  rw [call2_eq hp]
  have e1 : needs σ [.s true 0 []] = [] := rfl
  have e3 : deepC (pack1 (frz0 σ [])) [.s true 0 []] = some ([.s true 0 []], []) := rfl
  rw [e1, e3]
  simp only [Option.bind_some, lend1]
  rw [if_pos (by simp), hE]
  simp only [Option.bind_some, lend2, e1, frz0, back]
  rw [if_pos (by simp [room])]
  rfl
theorem TermOf_few (kL : Nat) (L : List (List UInt8)) (hL : L.length < 100000000) (x : UInt8) (r : List (List UInt8)) (i n : Nat) (st : List T) (op : List (UInt8 × UInt8)) (ids : List Nat) (e : Nat → AV) (σ : Sto) (nx : Nat) (q : Option (Ex × St))
    (hd : L.drop i = [x] :: r) (hst : st.length ≤ i) (hI : SI kL L i st op ids e σ nx)
    (hq : roundsE (evC II EE (withOpt [oPl 52] pf) MX (bodyL Tryz.f36 0)) (n + 1) ⟨e, σ, nx⟩ = q) (he : endM [x] = false) (m : Nat) (ha : arM [x] = (m : Int)) (hm : st.length < m) :
    ∃ e' σ' nx', q = some (.ret, ⟨e', σ', nx'⟩) ∧ e' 2 = S [] ∧ e' 3 = B false := by
  obtain ⟨hi, hx, hd'⟩ := strs_drop_head hd
  rw [rounds_rd] at hq
  have hc : ((i : Int) < (L.length : Int)) := by omega
  have hz : (0 : Int) ≤ (i : Int) := by omega
  have hhd : ((strs L).drop i).head? = some (S [x]) := by rw [strs_drop, hd]; rfl
  have hw : IntKind.i64.wrap ((i : Int) + 1) = ((i + 1 : Nat) : Int) := by rw [wrap64 (by omega) (by omega)]; rfl
  have h20 := hI.e20
  have h21 := hI.e21
  have h22 := hI.e22
  have hsL := hI.sL
  have h5 := hI.h5
  have hbe : EE 15 [S [x]] = some (B false) := begins_ev [x]
  have hen := isEnd_ev [x]
  rw [he] at hen
  have har := arity_ev x
  rw [ha] at har
  simp only [bodyL, bodyOf, Tryz.f36, SA, loops, List.nil_append, List.append_nil, List.cons_append, List.getD_cons_zero, List.getD_cons_succ] at hq
  have hlm : ((st.length : Int) < (m : Int)) := by omega
  simp only [h20, h21, h22, hsL, hc, hz, hhd, hbe, hen, har, len_stk hI.h4, hlm, TMA, Int.toNat_natCast, Nat.mul_one, Nat.zero_add, cut_w_lo, RR, IA, PA, RA0, RA1, RA2, RA3, RA4, RA5, RA6, RA7, RA8, RA9, RA10, Nat.reduceAdd, Nat.reduceMul, Nat.reduceEqDiff, Nat.reduceLeDiff, Nat.reduceLT, Int.reduceToNat, Int.reduceLT, Int.reduceLE, Int.reduceEq, Int.reduceNeg, Int.reduceAdd, Int.reduceSub, Int.reduceMul, reduceIte] at hq
  have hs : ∀ X Y, lenK (upd σ X Y) (e 4) (some ⟨.sl 78, 1, 24, [.slice none 0 0]⟩) = some (N st.length, upd σ X Y) := fun X Y => by
    rcases hI.h4 with ⟨h, rfl, rfl⟩ | ⟨id, k, k', cl, t, r, o, rfl, h2, h3, _⟩
    · rw [h]; rfl
    · rw [h2]; rfl
  simp only [hs, hlm, TMA, RR, IA, PA, RA0, RA1, RA2, RA3, RA4, RA5, RA6, RA7, RA8, RA9, RA10, Nat.reduceAdd, Nat.reduceMul, Nat.reduceEqDiff, Nat.reduceLeDiff, Nat.reduceLT, Int.reduceToNat, Int.reduceLT, Int.reduceLE, Int.reduceEq, Int.reduceNeg, Int.reduceAdd, Int.reduceSub, Int.reduceMul, reduceIte] at hq
  exact ⟨_, _, _, hq.symm, rfl, rfl⟩
theorem TermOf_first (kL : Nat) (L : List (List UInt8)) (hL : L.length < 100000000) (x : UInt8) (r : List (List UInt8)) (i n : Nat) (op : List (UInt8 × UInt8)) (ids : List Nat) (e : Nat → AV) (σ : Sto) (nx : Nat) (q : Option (Ex × St)) (av : AV)
    (hd : L.drop i = [x] :: r) (hI : SI kL L i [] op ids e σ nx) (h0 : e 0 = av)
    (hq : roundsE (evC II EE (withOpt [oPl 52] pf) MX (bodyL Tryz.f36 0)) (n + 1) ⟨e, σ, nx⟩ = q) (he : endM [x] = false) (ha : arM [x] = 0) (t' : T)
    (hp : IsP (.p [S [x], S [], .s false 0 []]) t') :
    ∃ e' σ' nx' ids', roundsE (evC II EE (withOpt [oPl 52] pf) MX (bodyL Tryz.f36 0)) n ⟨e', σ', nx'⟩ = q ∧ SI kL L (i + 1) [t'] op ids' e' σ' nx' ∧ e' 0 = av := by
  obtain ⟨hi, hx, hd'⟩ := strs_drop_head hd
  rw [rounds_rd] at hq
  have hc : ((i : Int) < (L.length : Int)) := by omega
  have hz : (0 : Int) ≤ (i : Int) := by omega
  have hhd : ((strs L).drop i).head? = some (S [x]) := by rw [strs_drop, hd]; rfl
  have hw : IntKind.i64.wrap ((i : Int) + 1) = ((i + 1 : Nat) : Int) := by rw [wrap64 (by omega) (by omega)]; rfl
  have h20 := hI.e20
  have h21 := hI.e21
  have h22 := hI.e22
  have hsL := hI.sL
  have h5 := hI.h5
  have hbe : EE 15 [S [x]] = some (B false) := begins_ev [x]
  have hen := isEnd_ev [x]
  rw [he] at hen
  have har := arity_ev x
  rw [ha] at har
  simp only [bodyL, bodyOf, Tryz.f36, SA, loops, List.nil_append, List.append_nil, List.cons_append, List.getD_cons_zero, List.getD_cons_succ] at hq
  rcases hI.h4 with ⟨h4, _, rfl⟩ | ⟨id, k, k', cl, t, r0, o, h, _⟩
  case inr => cases h
  have hkLn := hI.kLn
  simp only [h20, h21, h22, hsL, hc, hz, hhd, hbe, hen, har, h4, TMA, Int.toNat_natCast, Nat.mul_one, Nat.zero_add, cut_w_lo, RR, IA, PA, RA0, RA1, RA2, RA3, RA4, RA5, RA6, RA7, RA8, RA9, RA10, Nat.reduceAdd, Nat.reduceMul, Nat.reduceEqDiff, Nat.reduceLeDiff, Nat.reduceLT, Int.reduceToNat, Int.reduceLT, Int.reduceLE, Int.reduceEq, Int.reduceNeg, Int.reduceAdd, Int.reduceSub, Int.reduceMul, reduceIte] at hq
  have c1 : cut 1 (.s true 0 []) (some (.v (.int .i64 0))) none = some (.s true 0 []) := rfl
  have c2 : cut 1 (.s true 0 []) none (some (.v (.int .i64 0))) = some (.s true 0 []) := rfl
  simp only [c1, RR, IA, PA, RA0, RA1, RA2, RA3, RA4, RA5, RA6, RA7, RA8, RA9, RA10, Nat.reduceAdd, Nat.reduceMul, Nat.reduceEqDiff, Nat.reduceLeDiff, Nat.reduceLT, Int.reduceToNat, Int.reduceLT, Int.reduceLE, Int.reduceEq, Int.reduceNeg, Int.reduceAdd, Int.reduceSub, Int.reduceMul, reduceIte] at hq
  rw [call_clone0 (by rfl)] at hq
  generalize hτ : upd _ _ (some (Slot.row _ _ _ _)) = τ at hq
  have t1 : τ (nx + 4 + 12 + 8 + 64 + 28 + 8 + 16 + 28) = some (.row 78 1 0 []) := by rw [← hτ]; simp only [upd, if_true]
  have t4 : τ (nx + 4 + 12 + 8 + 64 + 8) = some (.ob 80 [S [x], S [], .s true 0 []]) := by
    rw [← hτ]; simp only [upd]; rw [if_neg (by omega)]; simp only [if_true]
  have t3 : ∀ j, j < nx → τ j = σ j := fun j hj => by rw [← hτ]; simp only [upd]; rw [if_neg (by omega), if_neg (by omega)]
  clear hτ
  simp only [t4, h4, c2, RR, IA, PA, RA0, RA1, RA2, RA3, RA4, RA5, RA6, RA7, RA8, RA9, RA10, Nat.reduceAdd, Nat.reduceMul, Nat.reduceEqDiff, Nat.reduceLeDiff, Nat.reduceLT, Int.reduceToNat, Int.reduceLT, Int.reduceLE, Int.reduceEq, Int.reduceNeg, Int.reduceAdd, Int.reduceSub, Int.reduceMul, reduceIte] at hq
  rw [app_s (by decide) (by rfl) (by rfl) (by rfl) (by decide) (by decide) (.inl (by decide))] at hq
  have hw0 : IntKind.i64.wrap ((i : Int) + 1) = ((i + 1 : Nat) : Int) := hw
  simp only [h22, hw0, RR, IA, PA, RA0, RA1, RA2, RA3, RA4, RA5, RA6, RA7, RA8, RA9, RA10, Nat.reduceAdd, Nat.reduceMul, Nat.reduceEqDiff, Nat.reduceLeDiff, Nat.reduceLT, Int.reduceToNat, Int.reduceLT, Int.reduceLE, Int.reduceEq, Int.reduceNeg, Int.reduceAdd, Int.reduceSub, Int.reduceMul, reduceIte] at hq
  have h5 := hI.h5
  refine ⟨_, _, _, [nx + 4 + 12 + 8 + 64 + 28 + 8 + 16 + 44 + 32, nx + 4 + 12 + 8 + 64 + 8, nx + 4 + 12 + 8 + 64 + 28 + 8 + 16 + 28], hq, ⟨h20, ?_, by omega, h21, rfl, ?_, ?_, ?_, hI.o5⟩, h0⟩
  · simp only [upd]
    rw [if_neg (by omega), if_neg (by omega), t3 kL (by omega), hsL]
  · change StkOk _ (.w (nx + 4 + 12 + 8 + 64 + 28 + 8 + 16 + 44 + 32) 0 (([] : List T).length - 0 + 1)) (t' :: ([] : List T).drop 0) _
    refine stk_next (id2 := nx + 4 + 12 + 8 + 64 + 28 + 8 + 16 + 44 + 32) (kb := nx + 4 + 12 + 8 + 64 + 8) (k2 := nx + 4 + 12 + 8 + 64 + 28 + 8 + 16 + 28) (s := [x]) (v := []) (all := []) .nil (Nat.le_refl _) ?_ ?_ ?_ hp (by omega) (by omega) (by omega)
    · simp only [upd, if_true]
      rfl
    · simp only [upd]
      rw [if_neg (by omega)]
      simp only [if_true]
    · simp only [upd]
      rw [if_neg (by omega), if_neg (by omega), t1]
      rfl
  · refine h5.frame (fun j hj => ?_) (by omega)
    have q1 := h5.n j hj
    simp only [upd]
    rw [if_neg (by omega), if_neg (by omega), t3 j q1]
  · intro j hj
    have hown : ∀ j ∈ own (e 5), j < nx := h5.n
    simp only [List.mem_cons, List.not_mem_nil, or_false] at hj
    refine ⟨by omega, by omega, fun h => ?_⟩
    have := hown j h
    omega
theorem end_ar {x : UInt8} (h : endM [x] = true) : arM [x] = 0 := by
  have h2 : x = 93 ∨ x = 125 := by simpa [endM] using h
  rcases h2 with rfl | rfl <;> rfl
theorem drop_last {α : Type} {l pre : List α} {y : α} {n : Nat} (h : l.take n = pre ++ [y]) (hn : n = pre.length + 1) : (l.drop (n - 1)).head? = some y ∧ l.take (n - 1) = pre := by
  subst hn
  have h1 : l[pre.length]? = some y := by
    have := congrArg (fun z => z[pre.length]?) h
    simp only [List.getElem?_take] at this
    simpa using this
  refine ⟨by simpa [List.head?_drop] using h1, ?_⟩
  have := congrArg (List.take pre.length) h
  rw [List.take_take] at this
  simpa using this
theorem TermOf_end (kL : Nat) (L : List (List UInt8)) (hL : L.length < 100000000) (x : UInt8) (r : List (List UInt8)) (i n : Nat) (t t1' : T) (st : List T) (c v : UInt8) (op : List (UInt8 × UInt8)) (ids : List Nat) (e : Nat → AV) (σ : Sto) (nx : Nat) (q : Option (Ex × St)) (av : AV)
    (hd : L.drop i = [x] :: r) (hst : st.length + 2 ≤ i) (hop : op.length + 1 ≤ i) (hI : SI kL L i (t :: t1' :: st) ((c, v) :: op) ids e σ nx) (h0 : e 0 = av)
    (hq : roundsE (evC II EE (withOpt [oPl 52] pf) MX (bodyL Tryz.f36 0)) (n + 1) ⟨e, σ, nx⟩ = q) (he : endM [x] = true) :
    ∃ e' σ' nx' ids', roundsE (evC II EE (withOpt [oPl 52] pf) MX (bodyL Tryz.f36 0)) n ⟨e', σ', nx'⟩ = q ∧ SI kL L (i + 1) (.loop c v t1' t :: st) op ids' e' σ' nx' ∧ e' 0 = av := by
  obtain ⟨hi, hx, hd'⟩ := strs_drop_head hd
  rw [rounds_rd] at hq
  have hc : ((i : Int) < (L.length : Int)) := by omega
  have hz : (0 : Int) ≤ (i : Int) := by omega
  have hhd : ((strs L).drop i).head? = some (S [x]) := by rw [strs_drop, hd]; rfl
  have hw : IntKind.i64.wrap ((i : Int) + 1) = ((i + 1 : Nat) : Int) := by rw [wrap64 (by omega) (by omega)]; rfl
  have h20 := hI.e20
  have h21 := hI.e21
  have h22 := hI.e22
  have hsL := hI.sL
  have h5 := hI.h5
  have hbe : EE 15 [S [x]] = some (B false) := begins_ev [x]
  have hen := isEnd_ev [x]
  rw [he] at hen
  have har := arity_ev x
  have ha := end_ar he
  rw [ha] at har
  simp only [bodyL, bodyOf, Tryz.f36, SA, loops, List.nil_append, List.append_nil, List.cons_append, List.getD_cons_zero, List.getD_cons_succ] at hq
  rcases hI.h4 with ⟨_, h, _⟩ | ⟨id, k, k', cl, t0, r0, o, hst0, h4, hσ, hcl, rfl, n1, n2, n3⟩
  · cases h
  cases hst0
  rcases h5 with ⟨_, h, _⟩ | ⟨id5, n5, cs5, hid5, h5e, hσ5, hl5, hn5, ht5⟩
  · cases h
  rw [opS_cons, ← strs_append, Nat.mul_one] at ht5
  obtain ⟨hy, hz5⟩ := drop_last ht5 (by rw [strs_len, opS_len]; rfl)
  simp only [List.length_cons, Nat.add_sub_cancel] at hy hz5 hn5 h5e
  have hlo : ¬ (((op.length + 1 : Nat) : Int) = 0) := by omega
  have hwo : IntKind.i64.wrap (((op.length + 1 : Nat) : Int) - 1) = ((op.length : Nat) : Int) := by rw [wrap64 (by omega) (by omega)]; omega
  have ho1 : (0 : Int) ≤ ((op.length : Nat) : Int) := by omega
  have ho2 : ((op.length : Nat) : Int) < ((op.length + 1 : Nat) : Int) := by omega
  have ho3 : ((op.length : Nat) : Int) ≤ ((op.length + 1 : Nat) : Int) := by omega
  have hlm : ¬ (((st.length + 1 + 1 : Nat) : Int) < 2) := by omega
  have hws : IntKind.i64.wrap (((st.length + 1 + 1 : Nat) : Int) - 2) = ((st.length : Nat) : Int) := by rw [wrap64 (by omega) (by omega)]; omega
  have hne5 : ¬ (id5 = nx + 4 + 12 + 8 + 64 + 8) := by omega
  simp only [h20, h21, h22, hsL, hc, hz, hhd, hbe, hen, har, h4, h5e, hσ5, hne5, hlo, hwo, ho1, ho2, ho3, hy, hlm, hws, TMA, List.length_cons, Int.toNat_natCast, Nat.mul_one, Nat.zero_add, cut_w_lo, cut_w_hi, RR, IA, PA, RA0, RA1, RA2, RA3, RA4, RA5, RA6, RA7, RA8, RA9, RA10, Nat.reduceAdd, Nat.reduceMul, Nat.reduceEqDiff, Nat.reduceLeDiff, Nat.reduceLT, Int.reduceToNat, Int.reduceLT, Int.reduceLE, Int.reduceEq, Int.reduceNeg, Int.reduceAdd, Int.reduceSub, Int.reduceMul, reduceIte] at hq
  have hcll : cl.length = st.length + 1 := by rw [hcl.len]; simp
  have hcon : (0 : Int) ≤ ((st.length : Nat) : Int) ∧ ((st.length : Nat) : Int) ≤ ((st.length + 1 + 1 : Nat) : Int) := ⟨by omega, by omega⟩
  have hN2 : st.length + 1 + 1 - st.length = 2 := by omega
  rw [if_pos hcon, hN2] at hq
  obtain ⟨g1, g2, g3⟩ := hI.idn id (by simp)
  obtain ⟨gk1, gk2, gk3⟩ := hI.idn k (by simp)
  obtain ⟨gp1, gp2, gp3⟩ := hI.idn k' (by simp)
  have hkLn := hI.kLn
  have i5 : id ≠ id5 := fun e2 => g3 (by rw [h5e]; simp [own, e2])
  have k5 : k ≠ id5 := fun e2 => gk3 (by rw [h5e]; simp [own, e2])
  have p5 : k' ≠ id5 := fun e2 => gp3 (by rw [h5e]; simp [own, e2])
  have l5 : kL ≠ id5 := fun e2 => hI.o5 (by rw [h5e]; simp [own, e2])
  rw [call_cloned o (by rfl) (by rw [upd, if_neg (by omega), upd, if_neg (by omega)]) (by rw [upd, if_neg (by omega), upd, if_neg (by omega)]) hcl.closed hcl.leaf (by rw [hcll]) (by rw [upd, if_neg (by omega), upd, if_neg (by omega), hσ]; rfl) n1 n2 n3 (by omega) (by omega)] at hq
  generalize hτ : cloneS _ _ _ _ _ _ _ _ _ = τ at hq
  have t1 := (congrFun hτ _).symm.trans (clone_key ..)
  have t2 := (congrFun hτ id).symm.trans (clone_id (by omega))
  have t3 : ∀ j, j ≠ _ → j ≠ id → j ≠ k → j ≠ k' → τ j = _ := fun j h1 h2 h3 h4 => (congrFun hτ j).symm.trans (clone_other h1 h2 h3 h4)
  clear hτ
  have t4 := t3 (nx + 4 + 12 + 8 + 64 + 28 + 8 + 28 + 24 + 20) (by omega) (by omega) (by omega) (by omega)
  rw [upd, if_pos rfl] at t4
  simp only [t4, h4, hws, List.length_cons, cut_w_hi, RR, IA, PA, RA0, RA1, RA2, RA3, RA4, RA5, RA6, RA7, RA8, RA9, RA10, Nat.reduceAdd, Nat.reduceMul, Nat.reduceEqDiff, Nat.reduceLeDiff, Nat.reduceLT, Int.reduceToNat, Int.reduceLT, Int.reduceLE, Int.reduceEq, Int.reduceNeg, Int.reduceAdd, Int.reduceSub, Int.reduceMul, reduceIte] at hq
  rw [if_pos hcon] at hq
  have hall : AllP (cl ++ [o.ptr]) (t :: t1' :: st).reverse := by
    rw [List.reverse_cons]
    exact hcl.app (.cons o.hp .nil)
  have hal : (cl ++ [o.ptr]).length = st.length + 1 + 1 := by rw [hall.len]; simp
  rw [app_part (n' := st.length + 1 + 1) (cs := cl ++ [o.ptr]) (by rw [upd, if_neg (by omega)]; exact t2) (by decide) (by rfl) (by rfl) (by show st.length * 1 ≤ _; rw [hal]; omega) (by omega) (by omega) (by omega)] at hq
  simp only [h22, hw, RR, IA, PA, RA0, RA1, RA2, RA3, RA4, RA5, RA6, RA7, RA8, RA9, RA10, Nat.reduceAdd, Nat.reduceMul, Nat.reduceEqDiff, Nat.reduceLeDiff, Nat.reduceLT, Int.reduceToNat, Int.reduceLT, Int.reduceLE, Int.reduceEq, Int.reduceNeg, Int.reduceAdd, Int.reduceSub, Int.reduceMul, reduceIte] at hq
  have hm : 2 ≤ (t :: t1' :: st).length := by simp
  have hpc := pc_of hall hm
  have hp : IsP (.p [S [c], S [v], .s false 2 (((cl ++ [o.ptr]).drop ((t :: t1' :: st).length - 2)).take 2)]) (.loop c v t1' t) := by
    have hpc2 : AllP (((cl ++ [o.ptr]).drop ((t :: t1' :: st).length - 2)).take 2) [t1', t] := hpc
    obtain ⟨p1, p2, e1, e2, e3⟩ := hpc2.two
    rw [e1]
    exact .loop false c v e2 e3
  refine ⟨_, _, _, [nx + 4 + 12 + 8 + 64 + 28 + 8 + 28 + 24 + 32 + 16 + 44 + 32, nx + 4 + 12 + 8 + 64 + 28 + 8 + 28 + 24 + 20, nx + 4 + 12 + 8 + 64 + 28 + 8 + 28 + 24 + 32 + 16 + 28], hq, ⟨h20, ?_, by omega, h21, rfl, ?_, ?_, ?_, ?_⟩, h0⟩
  · simp only [upd]
    rw [if_neg (by omega), if_neg (by omega), if_neg (by omega), t3 kL (by omega) (by omega) (by omega) (by omega), upd, if_neg (by omega), upd, if_neg (by omega), hsL]
  · change StkOk _ (.w (nx + 4 + 12 + 8 + 64 + 28 + 8 + 28 + 24 + 32 + 16 + 44 + 32) 0 ((t :: t1' :: st).length - 2 + 1)) (.loop c v t1' t :: (t :: t1' :: st).drop 2) _
    refine stk_next (id2 := nx + 4 + 12 + 8 + 64 + 28 + 8 + 28 + 24 + 32 + 16 + 44 + 32) (kb := nx + 4 + 12 + 8 + 64 + 28 + 8 + 28 + 24 + 20) (k2 := nx + 4 + 12 + 8 + 64 + 28 + 8 + 28 + 24 + 32 + 16 + 28) (s := [c]) (v := [v]) (all := cl ++ [o.ptr]) hall hm ?_ ?_ ?_ hp (by omega) (by omega) (by omega)
    · simp only [upd, if_true, Nat.mul_one]
      rfl
    · simp only [upd]
      rw [if_neg (by omega), if_neg (by omega)]
      simp only [if_true]
    · simp only [upd]
      rw [if_neg (by omega), if_neg (by omega), if_neg (by omega), t1]
      rfl
  · refine .inr ⟨id5, n5, cs5, by omega, rfl, ?_, hl5, by omega, by rw [Nat.mul_one]; exact hz5⟩
    simp only [upd]
    rw [if_neg (by omega), if_neg (fun e2 => i5 e2.symm), if_neg (by omega), t3 id5 (by omega) (fun e2 => i5 e2.symm) (fun e2 => k5 e2.symm) (fun e2 => p5 e2.symm), upd, if_neg (by omega), upd, if_neg (by omega), hσ5]
  · intro j hj
    simp only [List.mem_cons, List.not_mem_nil, or_false] at hj
    refine ⟨by omega, by omega, ?_⟩
    show j ∉ [id5]
    simp only [List.mem_singleton]
    omega
  · show kL ∉ [id5]
    simp only [List.mem_singleton]
    exact l5
end
end Go.Proofs.YtegbkihgnofkfaaGreatDoor.Ev
