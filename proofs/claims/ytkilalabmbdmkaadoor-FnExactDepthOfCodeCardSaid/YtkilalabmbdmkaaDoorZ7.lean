/-
Texts Un to Wg of the work, in one.
-/
import Derived.Test.YtkilalabmbdmkaaDoorZ6
/-
Code: what the reference says of code.
-/
namespace Go.Proofs.YtkilalabmbdmkaaDoor.Ev
section
set_option linter.unusedVariables false
set_option linter.unusedSimpArgs false
open Go Go.RowKit
set_option linter.unusedVariables false
set_option linter.unusedSimpArgs false
theorem adopt4 {σ : Sto} {key : Nat} {x y : AV} {n m E sz : Nat} {cs ds : List AV} (hx : closed x = true) (hy : closed y = true) (hc : closedL cs = true) (hd : closedL ds = true) :
    adopt σ key (.t [x, .o E sz n cs, .o E sz m ds, y]) = some (.t [x, .w (key + 1) 0 n, .w (key + 1 + 1) 0 m, y], upd (upd σ (key + 1) (some (.row E sz n cs))) (key + 1 + 1) (some (.row E sz m ds))) := by
  simp only [adopt]
  rw [if_neg (by simp [closedL, closed])]
  simp only [List.length_cons, List.length_nil, adoptL, adopt1_closed hx, adopt1_closed hy, adopt1_o hc, adopt1_o hd, Option.bind_some, Option.map_some]
  rfl
theorem T_specTermOf : TT 24 = some (Tryd.f24, bodyOf Tryd.f24) := by kernel_rfl
theorem adopt_b4 (σ : Sto) (key : Nat) (t : T) (hs ls : List Nat) : adopt σ key (.t [.a (encN t), .o 3 1 hs.length (nats hs), .o 3 1 ls.length (nats ls), B true]) = some (.t [.a (encN t), .w (key + 1) 0 hs.length, .w (key + 1 + 1) 0 ls.length, B true], upd (upd σ (key + 1) (some (.row 3 1 hs.length (nats hs)))) (key + 1 + 1) (some (.row 3 1 ls.length (nats ls)))) :=
  adopt4 (by simp only [closed, encN_closed]) rfl (nats_closed _) (nats_closed _)
theorem adopt_z4 (σ : Sto) (key : Nat) : adopt σ key (.t [.a zeroN, .s true 0 [], .s true 0 [], B false]) = some (.t [.a zeroN, .s true 0 [], .s true 0 [], B false], σ) := rfl
theorem zeroN_len : zeroN.length = 3 := rfl
theorem zeroN_leaf : zeroN.all leafOk = true := rfl
theorem specB_wf {code : List UInt8} {t : T} {hs ls : List Nat} (h : specB code = some (t, hs, ls)) : WF t ∧ (textT t).length ≤ 80 := by
  obtain ⟨_, hw, _, _, hr⟩ := spec_impl h
  exact ⟨hw, (rdT_wf hr).2.2⟩
theorem specTermOf_ev (code : List UInt8) (hl : code.length < 50000000) : EE 24 [S code] = some (match specB code with | some (t, _, _) => .t [S (textT t), B true] | none => .t [S [], B false]) := by
  refine EE_plain T_specTermOf (by decide) (Nat.le_of_ble_eq_true rfl) rfl ?_
  rw [show opt 24 = [] from rfl]
  simp only [bodyOf, Tryd.f24, SA]
  have h := l7Build_ev code hl
  cases hs : specB code with
  | none =>
    rw [hs] at h
    simp only [buildR] at h
    simp only [h, adopt_z4, zeroN_len, zeroN_leaf, RR, IA, PA, RA0, RA1, RA2, RA3, RA4, RA5, RA6, RA7, RA8, RA9, RA10, Nat.reduceAdd, Nat.reduceMul, Nat.reduceEqDiff, Nat.reduceLeDiff, Nat.reduceLT, Int.reduceToNat, Int.reduceLT, Int.reduceLE, Int.reduceEq, Int.reduceNeg, Int.reduceAdd, Int.reduceSub, Int.reduceMul, reduceIte]
  | some w =>
    obtain ⟨t, hh, lv⟩ := w
    rw [hs] at h
    simp only [buildR] at h
    obtain ⟨hw, h80⟩ := specB_wf hs
    have htx := l5Text_ev t hw (by omega)
    simp only [h, htx, adopt_b4, TMA, RR, IA, PA, RA0, RA1, RA2, RA3, RA4, RA5, RA6, RA7, RA8, RA9, RA10, Nat.reduceAdd, Nat.reduceMul, Nat.reduceEqDiff, Nat.reduceLeDiff, Nat.reduceLT, Int.reduceToNat, Int.reduceLT, Int.reduceLE, Int.reduceEq, Int.reduceNeg, Int.reduceAdd, Int.reduceSub, Int.reduceMul, reduceIte]
end
end Go.Proofs.YtkilalabmbdmkaaDoor.Ev

/-
Code: the implementation's code of a term.
-/
namespace Go.Proofs.YtkilalabmbdmkaaDoor.Ev
section
set_option linter.unusedVariables false
set_option linter.unusedSimpArgs false
open Go Go.RowKit
set_option linter.unusedVariables false
set_option linter.unusedSimpArgs false
theorem joinTail_len : ∀ (l : List (List UInt8)), (∀ y ∈ l, y.length ≤ 2) → (Lib.joinTail [32] l).length ≤ 3 * l.length
  | [], _ => by simp [Lib.joinTail]
  | x :: l, h => by
    have h1 := joinTail_len l fun y hy => h y (by simp [hy])
    have h2 := h x (by simp)
    have e : Lib.joinTail [32] (x :: l) = 32 :: (x ++ Lib.joinTail [32] l) := by simp [Lib.joinTail]
    rw [e]
    simp only [List.length_cons, List.length_append]
    omega
theorem joinS_len (l : List (List UInt8)) (h : ∀ y ∈ l, y.length ≤ 2) : (joinS l).length ≤ 3 * l.length := by
  cases l with
  | nil => simp [joinS, Lib.join]
  | cons x l =>
    have h1 := joinTail_len l fun y hy => h y (by simp [hy])
    have h2 := h x (by simp)
    rw [joinS, Lib.join_cons]
    simp only [List.length_cons, List.length_append]
    omega
theorem list_short : ∀ t, ∀ y ∈ listT t, y.length ≤ 2 := by
  intro t
  induction t with
  | dig c => intro y hy; simp only [listT, List.mem_singleton] at hy; subst hy; simp
  | var c => intro y hy; simp only [listT, List.mem_singleton] at hy; subst hy; simp
  | one s x ih =>
    intro y hy
    simp only [listT, List.mem_append, List.mem_singleton] at hy
    rcases hy with hy | rfl
    · exact ih y hy
    · simp
  | two s x y ihx ihy =>
    intro z hz
    simp only [listT, List.mem_append, List.mem_singleton] at hz
    rcases hz with (hz | hz) | rfl
    · exact ihx z hz
    · exact ihy z hz
    · simp
  | loop s v x y ihx ihy =>
    intro z hz
    simp only [listT, List.mem_append, List.mem_singleton] at hz
    rcases hz with ((hz | rfl) | hz) | rfl
    · exact ihx z hz
    · simp
    · exact ihy z hz
    · simp
theorem join_ev (ex : Bool) (l : List (List UInt8)) (h1 : l.length ≤ 140737488355328) (h2 : (joinS l).length ≤ 140737488355328) : EE 69 [.s ex l.length (strs l), S [32]] = some (S (joinS l)) := by
  refine EE_hand ?_
  simp only [hand, handJ, unSL_strs, Option.bind_some, if_true, true_and]
  rw [if_pos ⟨h1, by simpa [joinS] using h2⟩]
  rfl
theorem adopt_enc (σ : Sto) (key : Nat) (x : T) : adopt σ key (encP x) = some (encP x, σ) := by
  have h := encP_closed x
  cases x <;> exact adopt_p (by simpa only [encP, closed] using h)
theorem T_implCodeOf : TT 44 = some (Tryd.f44, bodyOf Tryd.f44) := by kernel_rfl
theorem implCodeOf_ev (t : List UInt8) (hl : t.length < 1000000000) : EE 44 [S t] = some (match codeT t with | some c => .t [S c, B true] | none => .t [S [], B false]) := by
  refine EE_plain T_implCodeOf (by decide) (Nat.le_of_ble_eq_true rfl) rfl ?_
  rw [show opt 44 = [] from rfl]
  simp only [bodyOf, Tryd.f44, SA]
  have h := termOf_ev t (by omega)
  cases hr : rdT t with
  | none =>
    rw [hr] at h
    simp only at h
    simp only [h, codeT, hr, Option.map_none, TMA, RR, IA, PA, RA0, RA1, RA2, RA3, RA4, RA5, RA6, RA7, RA8, RA9, RA10, Nat.reduceAdd, Nat.reduceMul, Nat.reduceEqDiff, Nat.reduceLeDiff, Nat.reduceLT, Int.reduceToNat, Int.reduceLT, Int.reduceLE, Int.reduceEq, Int.reduceNeg, Int.reduceAdd, Int.reduceSub, Int.reduceMul, reduceIte]
  | some x =>
    rw [hr] at h
    simp only at h
    obtain ⟨hw, h80, _⟩ := rdT_wf hr
    have hi := instructions_ev x hw (by omega)
    have hjl := joinS_len (listT x) (list_short x)
    have hj := join_ev false (listT x) (by omega) (by omega)
    simp only [h, hi, codeT, hr, adopt_enc, Option.map_some, strs_closed, encP_closed, TMA, RR, IA, PA, RA0, RA1, RA2, RA3, RA4, RA5, RA6, RA7, RA8, RA9, RA10, Nat.reduceAdd, Nat.reduceMul, Nat.reduceEqDiff, Nat.reduceLeDiff, Nat.reduceLT, Int.reduceToNat, Int.reduceLT, Int.reduceLE, Int.reduceEq, Int.reduceNeg, Int.reduceAdd, Int.reduceSub, Int.reduceMul, reduceIte]
    rw [call0_w (r := .string ⟨(joinS (listT x)).toArray⟩) (by rfl) (by rfl) (by rw [strs_len, Nat.mul_one]) (strs_closed _) (by rfl) (by exact hj)]
    simp only [RR, IA, PA, RA0, RA1, RA2, RA3, RA4, RA5, RA6, RA7, RA8, RA9, RA10, Nat.reduceAdd, Nat.reduceMul, Nat.reduceEqDiff, Nat.reduceLeDiff, Nat.reduceLT, Int.reduceToNat, Int.reduceLT, Int.reduceLE, Int.reduceEq, Int.reduceNeg, Int.reduceAdd, Int.reduceSub, Int.reduceMul, reduceIte]
end
end Go.Proofs.YtkilalabmbdmkaaDoor.Ev

/-
Code: the implementation's stack of terms; slices.Clone of its end.
-/
namespace Go.Proofs.YtkilalabmbdmkaaDoor.Ev
section
set_option linter.unusedVariables false
set_option linter.unusedSimpArgs false
open Go Go.RowKit
set_option linter.unusedVariables false
set_option linter.unusedSimpArgs false
/-- Cells that are terms. -/
inductive AllP : List AV → List T → Prop
  | nil : AllP [] []
  | cons {a : AV} {t : T} {xs : List AV} {ts : List T} (h : IsP a t) (k : AllP xs ts) : AllP (a :: xs) (t :: ts)
theorem AllP.len {xs : List AV} {ts : List T} (h : AllP xs ts) : xs.length = ts.length := by
  induction h with
  | nil => rfl
  | cons h k ih => simp [ih]
theorem AllP.closed {xs : List AV} {ts : List T} (h : AllP xs ts) : closedL xs = true := by
  induction h with
  | nil => rfl
  | cons h k ih => simp only [closedL, h.closed, ih, Bool.and_self]
theorem AllP.leaf {xs : List AV} {ts : List T} (h : AllP xs ts) : xs.all leafOk = true := by
  induction h with
  | nil => rfl
  | cons h k ih => simp only [List.all_cons, h.leaf.2, ih, Bool.and_self]
theorem AllP.app {xs ys : List AV} {ts us : List T} (h : AllP xs ts) (k : AllP ys us) : AllP (xs ++ ys) (ts ++ us) := by
  induction h with
  | nil => exact k
  | cons h _ ih => exact .cons h ih
theorem AllP.take {xs : List AV} {ts : List T} (h : AllP xs ts) : ∀ n, AllP (xs.take n) (ts.take n) := by
  induction h with
  | nil => intro n; simp; exact .nil
  | cons h k ih =>
    intro n
    cases n with
    | zero => exact .nil
    | succ n => exact .cons h (ih n)
theorem AllP.drop {xs : List AV} {ts : List T} (h : AllP xs ts) : ∀ n, AllP (xs.drop n) (ts.drop n) := by
  induction h with
  | nil => intro n; simp; exact .nil
  | cons h k ih =>
    intro n
    cases n with
    | zero => exact .cons h k
    | succ n => exact ih n
/-- A term that is being made: an object whose parts are a row. -/
structure Obj1 (σ : Sto) (k k' : Nat) (t : T) where
  s : List UInt8
  v : List UInt8
  m : Nat
  pc : List AV
  hk : σ k = some (.ob 56 [S s, S v, .w k' 0 m])
  hk' : σ k' = some (.row 38 1 m pc)
  hc : closedL pc = true
  hl : pc.length = m
  hp : IsP (.p [S s, S v, .s false m pc]) t
theorem deep_ob {σ : Sto} {k off T : Nat} {cs : List AV} (d : Nat) (h : σ k = some (.ob T cs)) : deep σ (d + 1) (.r k off) = (deepC (deep σ d) cs).map fun (ds, is) => (.p (ds.drop off), k :: is) := by simp only [deep, h]
theorem deep_fz {σ : Sto} {k off : Nat} {cs : List AV} (d : Nat) (h : σ k = some (.fz cs)) (hc : closedL cs = true) (hn : cs ≠ []) : deep σ (d + 1) (.r k off) = some (.p (cs.drop off), []) := by
  simp only [deep, h]
  rw [if_pos ⟨hc, hn⟩]
def Obj1.ptr {σ : Sto} {k k' : Nat} {t : T} (o : Obj1 σ k k' t) : AV := .p [S o.s, S o.v, .s false o.m o.pc]
theorem Obj1.deep {σ : Sto} {k k' : Nat} {t : T} (o : Obj1 σ k k' t) (d : Nat) : Ev.deep σ (d + 3) (.r k 0) = some (o.ptr, [k, k']) := by
  have h1 : Ev.deep σ (d + 2) (.w k' 0 o.m) = some (.s false o.m o.pc, [k']) := by
    rw [deep_w (d + 1) o.hk' (by have := o.hl; omega) o.hc, List.drop_zero, List.take_of_length_le (by have := o.hl; omega)]
  have h2 : ∀ x : List UInt8, Ev.deep σ (d + 2) (S x) = some (S x, []) := fun x => rfl
  have h3 : deepC (Ev.deep σ (d + 2)) [S o.s, S o.v, .w k' 0 o.m] = some ([S o.s, S o.v, .s false o.m o.pc], [k']) := by
    simp only [deepC, h1, h2, Option.bind_some, Option.map_some, List.nil_append, List.append_nil]
  rw [deep_ob (d + 2) o.hk]
  simp only [h3, Option.map_some]
  rfl
theorem deepC_app (f : AV → Option (AV × List Nat)) : ∀ (xs ys : List AV) {xs' ys' : List AV} {is js : List Nat}, deepC f xs = some (xs', is) → deepC f ys = some (ys', js) → deepC f (xs ++ ys) = some (xs' ++ ys', is ++ js)
  | [], ys, xs', ys', is, js, h, k => by
    simp only [deepC, Option.some.injEq, Prod.mk.injEq] at h
    obtain ⟨rfl, rfl⟩ := h
    simpa using k
  | x :: xs, ys, xs', ys', is, js, h, k => by
    simp only [deepC] at h
    obtain ⟨⟨y, i1⟩, h1, h2⟩ := Option.bind_eq_some_iff.1 h
    obtain ⟨⟨ys1, i2⟩, h3, h4⟩ := Option.map_eq_some_iff.1 h2
    simp only [Prod.mk.injEq] at h4
    obtain ⟨rfl, rfl⟩ := h4
    have := deepC_app f xs ys h3 k
    simp only [List.cons_append, deepC, h1, Option.bind_some, this, Option.map_some, List.append_assoc]
/-- The store behind slices.Clone: the object is told for good. -/
def cloneS (σ : Sto) (key id k k' N n : Nat) (ds cs : List AV) : Sto :=
  upd (upd (killL (frz σ 8 [k, k']) [id]) id (some (.row 38 1 N ds))) key (some (.row 38 1 n cs))
theorem call_clone {pf' : FuncId → Nat} {σ : Sto} {key id lo n k k' : Nat} {t : T} {cl : List AV} (hp : pf' 43 = 2) (o : Obj1 σ k k' t) (hcl : closedL cl = true) (hcf : cl.all leafOk = true) (hσ : σ id = some (.row 38 1 (cl.length + 1) (cl ++ [.r k 0])))
    (h1 : id ≠ k) (h2 : id ≠ k') (h3 : k ≠ k') (hln : lo + n ≤ cl.length + 1) (hn : n ≤ 1000000) :
    callOp EE pf' σ key 43 [.w id lo n] = some (.w key 0 n, cloneS σ key id k k' (cl.length + 1) n (cl ++ [o.ptr]) (((cl ++ [o.ptr]).drop lo).take n)) := by
  have hpc : closed o.ptr = true := o.hp.closed
  have hpl : leafOk o.ptr = true := o.hp.leaf.2
  have d1 : deepC (Ev.deep σ 8) (cl ++ [.r k 0]) = some (cl ++ [o.ptr], [k, k']) := by
    refine deepC_app _ _ _ (is := []) (js := [k, k']) (deepL_closed 8 hcl) ?_
    simp only [deepC, o.deep 5, Option.bind_some, Option.map_some, List.append_nil]
  have e1 : needs σ [.w id lo n] = [k, k'] := by
    simp only [needs, need, hσ, d1, List.append_nil]
  have e2 : frz0 σ [k, k'] = frz σ 8 [k, k'] := rfl
  have f1 : frz σ 8 [k, k'] id = some (.row 38 1 (cl.length + 1) (cl ++ [.r k 0])) := by
    unfold frz
    rw [if_neg (by simp [h1, h2])]
    exact hσ
  have f2 : frz σ 8 [k, k'] k = some (.fz [S o.s, S o.v, .s false o.m o.pc]) := by
    unfold frz
    rw [if_pos (by simp), o.hk]
    have h1 : Ev.deep σ 8 (.w k' 0 o.m) = some (.s false o.m o.pc, [k']) := by
      rw [deep_w 7 o.hk' (by have := o.hl; omega) o.hc, List.drop_zero, List.take_of_length_le (by have := o.hl; omega)]
    have h2 : ∀ x : List UInt8, Ev.deep σ 8 (S x) = some (S x, []) := fun x => rfl
    simp only [Option.bind_some, Slot.cells, deepC, h1, h2, Option.map_some, List.nil_append, List.append_nil]
    simp
  have d2 : deepC (Ev.deep (frz σ 8 [k, k']) 8) (cl ++ [.r k 0]) = some (cl ++ [o.ptr], []) := by
    refine deepC_app _ _ _ (is := []) (js := []) (deepL_closed 8 hcl) ?_
    have h4 : Ev.deep (frz σ 8 [k, k']) 8 (.r k 0) = some (o.ptr, []) := by
      rw [deep_fz 7 f2 (by simpa only [Obj1.ptr, closed] using hpc) (by simp)]
      rfl
    simp only [deepC, h4, Option.bind_some, Option.map_some, List.append_nil]
  have hlen : (cl ++ [o.ptr]).length = cl.length + 1 := by simp
  have hE : EE 43 [.t [.v (.bool false), ni lo, ni n, .o 38 1 (cl.length + 1) (cl ++ [o.ptr])]] = some (.t [.o 38 1 n (((cl ++ [o.ptr]).drop lo).take n), .t [.t [.v (.bool false), ni lo, ni n, .o 38 1 (cl.length + 1) (cl ++ [o.ptr])]]]) := by
    refine EE_hand ?_
    simp only [hand]
    unfold handC
    rw [if_pos rfl]
    simp only [ni]
    rw [if_pos ⟨trivial, trivial, by omega, by omega, by simp only [List.all_append, hcf, List.all_cons, hpl, List.all_nil, Bool.and_self], by simp only [Int.toNat_natCast]; omega, by simp only [Int.toNat_natCast]; omega⟩]
    simp only [Int.toNat_natCast]
  have hcc : closedL (((cl ++ [o.ptr]).drop lo).take n) = true := by
    have hc : closedL (cl ++ [o.ptr]) = true := by simp only [closedL_append, hcl, closedL, hpc, Bool.and_self]
    have e : cl ++ [o.ptr] = (cl ++ [o.ptr]).take lo ++ (((cl ++ [o.ptr]).drop lo).take n ++ ((cl ++ [o.ptr]).drop lo).drop n) := by rw [List.take_append_drop, List.take_append_drop]
    rw [e, closedL_append, closedL_append, Bool.and_eq_true, Bool.and_eq_true] at hc
    exact hc.2.1
  rw [call2_eq hp, e1, e2]
  have e3 : deepC (pack1 (frz σ 8 [k, k'])) [.w id lo n] = some ([.t [.v (.bool false), ni lo, ni n, .o 38 1 (cl.length + 1) (cl ++ [o.ptr])]], [id]) := by
    simp only [deepC, pack1, f1, d2, Option.bind_some, if_true, Option.map_some, List.append_nil]
  rw [e3]
  simp only [Option.bind_some, lend1]
  rw [if_pos (by simp), hE]
  simp only [Option.bind_some, lend2, e1, e2, back, ni]
  rw [if_pos (by simp [room])]
  rw [adopt_o hcc]
  rfl
end
end Go.Proofs.YtkilalabmbdmkaaDoor.Ev

/-
Code: the implementation's loop over instructions.
-/
namespace Go.Proofs.YtkilalabmbdmkaaDoor.Ev
section
set_option linter.unusedVariables false
set_option linter.unusedSimpArgs false
open Go Go.RowKit
set_option linter.unusedVariables false
set_option linter.unusedSimpArgs false
theorem T_implTermOf : TT 26 = some (Tryd.f26, bodyOf Tryd.f26) := by kernel_rfl
/-- The front of a row. -/
def LsP (σ : Sto) (nx E sz : Nat) (v : AV) (n : Nat) (cs : List AV) : Prop :=
  (v = .s true 0 [] ∧ n = 0 ∧ cs = []) ∨ ∃ id n' cs', id < nx ∧ v = .w id 0 n ∧ σ id = some (.row E sz n' cs') ∧ cs'.length = n' * sz ∧ n ≤ n' ∧ cs'.take (n * sz) = cs
def StkOk (σ : Sto) (v : AV) (st : List T) (ids : List Nat) : Prop :=
  (v = .s true 0 [] ∧ st = [] ∧ ids = []) ∨ ∃ id k k' cl t r, ∃ o : Obj1 σ k k' t, st = t :: r ∧ v = .w id 0 (r.length + 1) ∧ σ id = some (.row 38 1 (r.length + 1) (cl ++ [.r k 0])) ∧ AllP cl r.reverse ∧ ids = [id, k, k'] ∧ id ≠ k ∧ id ≠ k' ∧ k ≠ k'
def opS (op : List (UInt8 × UInt8)) : List (List UInt8) := op.reverse.map fun q => [q.1, q.2]
theorem opS_len (op : List (UInt8 × UInt8)) : (opS op).length = op.length := by simp [opS]
theorem opS_cons (q : UInt8 × UInt8) (op : List (UInt8 × UInt8)) : opS (q :: op) = opS op ++ [[q.1, q.2]] := by simp [opS]
theorem LsP.n {σ : Sto} {nx E sz n : Nat} {v : AV} {cs : List AV} (h : LsP σ nx E sz v n cs) : ∀ i ∈ own v, i < nx := by
  intro i hi
  rcases h with ⟨rfl, h⟩ | ⟨id, n', cs', h1, rfl, h2⟩
  · simp [own] at hi
  · simp only [own, List.mem_singleton] at hi
    omega
theorem LsP.frame {σ τ : Sto} {nx nx' E sz n : Nat} {v : AV} {cs : List AV} (h : LsP σ nx E sz v n cs) (hs : ∀ i ∈ own v, τ i = σ i) (hn : nx ≤ nx') : LsP τ nx' E sz v n cs := by
  rcases h with h | ⟨id, n', cs', h1, rfl, h2, h3⟩
  · exact .inl h
  · exact .inr ⟨id, n', cs', by omega, rfl, by rw [hs id (by simp [own]), h2], h3⟩
theorem len_lsp {σ : Sto} {nx E sz : Nat} {v : AV} {n : Nat} {cs : List AV} (h : LsP σ nx E sz v n cs) {t : Nat} {a b : Nat} {c : List Value} : lenK σ v (some ⟨.sl t, a, b, c⟩) = some (N n, σ) := by
  rcases h with ⟨rfl, rfl, rfl⟩ | ⟨id, n', cs', _, rfl, hσ, _⟩ <;> rfl
theorem lsp_app {σ : Sto} {key nx E sz by_ : Nat} {k : TK} {z : List Value} {v : AV} {n m : Nat} {cs news : List AV} (h : LsP σ nx E sz v n cs) (h1 : 0 < sz) (h2 : news.length = m * sz) (h3 : news.all leafOk = true) (h4 : m ≠ 0) (h5 : (n + m) * by_ ≤ 140737488355328) (h6 : n + m ≤ 9223372036854775807) (hk : nx ≤ key) :
    appK σ key E ⟨k, sz, by_, z⟩ v (some (m, news)) = some (.w key 0 (n + m), appSto σ key E sz v (n + m) (cs ++ news)) := by
  rcases h with ⟨rfl, rfl, rfl⟩ | ⟨id, n', cs', hid, rfl, hσ, hl, hn, ht⟩
  · rw [app_s h1 h2 h3 (by simp) h6 h5 (.inl h4)]
    rfl
  · rw [app_part hσ h1 h2 h3 (by rw [hl]; exact Nat.mul_le_mul_right _ hn) h6 h5 (by omega), ht]
    rfl
theorem StkOk.frame {σ τ : Sto} {v : AV} {st : List T} {ids : List Nat} (h : StkOk σ v st ids) (hs : ∀ i ∈ ids, τ i = σ i) : StkOk τ v st ids := by
  rcases h with h | ⟨id, k, k', cl, t, r, o, h1, h2, h3, h4, rfl, h5⟩
  · exact .inl h
  · exact .inr ⟨id, k, k', cl, t, r, ⟨o.s, o.v, o.m, o.pc, by rw [hs k (by simp), o.hk], by rw [hs k' (by simp), o.hk'], o.hc, o.hl, o.hp⟩, h1, h2, by rw [hs id (by simp), h3], h4, rfl, h5⟩
theorem len_stk {σ : Sto} {v : AV} {st : List T} {ids : List Nat} (h : StkOk σ v st ids) {t : Nat} {a b : Nat} {c : List Value} : lenK σ v (some ⟨.sl t, a, b, c⟩) = some (N st.length, σ) := by
  rcases h with ⟨rfl, rfl, rfl⟩ | ⟨id, k, k', cl, t, r, o, rfl, rfl, h3, _⟩
  · rfl
  · rfl
structure SI (kL : Nat) (L : List (List UInt8)) (i : Nat) (st : List T) (op : List (UInt8 × UInt8)) (ids : List Nat) (e : Nat → AV) (σ : Sto) (nx : Nat) : Prop where
  e20 : e 20 = .w kL 0 L.length
  sL : σ kL = some (.row 9 1 L.length (strs L))
  kLn : kL < nx
  e21 : e 21 = N L.length
  e22 : e 22 = N i
  h4 : StkOk σ (e 4) st ids
  h5 : LsP σ nx 9 1 (e 5) op.length (strs (opS op))
  idn : ∀ j ∈ ids, j < nx ∧ j ≠ kL ∧ j ∉ own (e 5)
  o5 : kL ∉ own (e 5)
/-- What a round or all of them leave. -/
def SR (kL : Nat) (L : List (List UInt8)) (a : AV) (q : Option (Ex × St)) : Option (List T × List (UInt8 × UInt8)) → Prop
  | some (st', op') => ∃ e' σ' nx' ids', q = some (.exit 0, ⟨e', σ', nx'⟩) ∧ SI kL L L.length st' op' ids' e' σ' nx' ∧ e' 0 = a
  | none => ∃ e' σ' nx', q = some (.ret, ⟨e', σ', nx'⟩) ∧ e' 2 = S [] ∧ e' 3 = B false
theorem begM_of {x : List UInt8} (h : begM x = true) : ∃ a v, x = [a, v] ∧ (a = 91 ∨ a = 123) := by
  unfold begM at h
  split at h
  · rename_i a v
    exact ⟨a, v, rfl, by simpa using h⟩
  · cases h
theorem TermOf_beg (kL : Nat) (L : List (List UInt8)) (hL : L.length < 100000000) (x : List UInt8) (r : List (List UInt8)) (i n : Nat) (st : List T) (op : List (UInt8 × UInt8)) (ids : List Nat) (e : Nat → AV) (σ : Sto) (nx : Nat) (q : Option (Ex × St)) (av : AV)
    (hd : L.drop i = x :: r) (hop : op.length ≤ i) (hI : SI kL L i st op ids e σ nx) (h0 : e 0 = av)
    (hq : roundsE (evC II EE (withOpt [oPl 33] pf) MX (bodyL Tryd.f26 0)) (n + 1) ⟨e, σ, nx⟩ = q) (hb : begM x = true) :
    ∃ a v e' σ' nx', x = [a, v] ∧ (a = 91 ∨ a = 123) ∧ roundsE (evC II EE (withOpt [oPl 33] pf) MX (bodyL Tryd.f26 0)) n ⟨e', σ', nx'⟩ = q ∧ SI kL L (i + 1) st ((a, v) :: op) ids e' σ' nx' ∧ e' 0 = av := by
  obtain ⟨hi, hx, hd'⟩ := strs_drop_head hd
  obtain ⟨a, v, rfl, hav⟩ := begM_of hb
  rw [rounds_rd] at hq
  have hc : ((i : Int) < (L.length : Int)) := by omega
  have hz : (0 : Int) ≤ (i : Int) := by omega
  have hw : IntKind.i64.wrap ((i : Int) + 1) = ((i + 1 : Nat) : Int) := by rw [wrap64 (by omega) (by omega)]; rfl
  have hhd : ((strs L).drop i).head? = some (S [a, v]) := by rw [strs_drop, hd]; rfl
  have h20 := hI.e20
  have h21 := hI.e21
  have h22 := hI.e22
  have hsL := hI.sL
  have h5 := hI.h5
  have hbe := begins_ev [a, v]
  rw [hb] at hbe
  simp only [bodyL, bodyOf, Tryd.f26, SA, loops, List.nil_append, List.append_nil, List.cons_append, List.getD_cons_zero, List.getD_cons_succ] at hq
  simp only [h20, h21, h22, hsL, hc, hz, hw, hhd, hbe, Int.toNat_natCast, Nat.mul_one, Nat.zero_add, RR, IA, PA, RA0, RA1, RA2, RA3, RA4, RA5, RA6, RA7, RA8, RA9, RA10, Nat.reduceAdd, Nat.reduceMul, Nat.reduceEqDiff, Nat.reduceLeDiff, Nat.reduceLT, Int.reduceToNat, Int.reduceLT, Int.reduceLE, Int.reduceEq, Int.reduceNeg, Int.reduceAdd, Int.reduceSub, Int.reduceMul, reduceIte] at hq
  rw [lsp_app h5 (by decide) (by rfl) (by rfl) (by decide) (by omega) (by omega) (by omega)] at hq
  generalize hτ : appSto _ _ _ _ (e 5) _ _ = τ at hq
  have t1 := (congrFun hτ _).symm.trans (appSto_key ..)
  have t2 : ∀ j, j ≠ _ → j ∉ own (e 5) → τ j = σ j := fun j h1 h2 => (congrFun hτ j).symm.trans (own_other h1 h2)
  clear hτ
  simp only [h22, hw, RR, IA, PA, RA0, RA1, RA2, RA3, RA4, RA5, RA6, RA7, RA8, RA9, RA10, Nat.reduceAdd, Nat.reduceMul, Nat.reduceEqDiff, Nat.reduceLeDiff, Nat.reduceLT, Int.reduceToNat, Int.reduceLT, Int.reduceLE, Int.reduceEq, Int.reduceNeg, Int.reduceAdd, Int.reduceSub, Int.reduceMul, reduceIte] at hq
  have hkL := hI.kLn
  refine ⟨a, v, _, _, _, rfl, hav, hq, ⟨h20, ?_, by omega, h21, rfl, ?_, ?_, ?_, ?_⟩, h0⟩
  · rw [t2 kL (by omega) hI.o5, hsL]
  · exact hI.h4.frame fun j hj => by
      obtain ⟨g1, g2, g3⟩ := hI.idn j hj
      exact t2 j (by omega) g3
  · rw [opS_cons]
    refine .inr ⟨_, _, _, by omega, rfl, t1, ?_, Nat.le_refl _, ?_⟩
    · simp [strs_len, opS_len]
    · rw [List.take_of_length_le (by simp [strs_len, opS_len])]
      simp [strs]
  · intro j hj
    obtain ⟨g1, g2, g3⟩ := hI.idn j hj
    refine ⟨by omega, g2, ?_⟩
    show j ∉ [nx + 4 + 12 + 8 + 12]
    simp only [List.mem_singleton]
    omega
  · show kL ∉ [nx + 4 + 12 + 8 + 12]
    simp only [List.mem_singleton]
    omega
theorem beq_long (a b : UInt8) (l : List UInt8) : ((a :: b :: l : List UInt8) == []) = false := rfl
theorem TermOf_bad (kL : Nat) (L : List (List UInt8)) (hL : L.length < 100000000) (x : List UInt8) (r : List (List UInt8)) (i n : Nat) (st : List T) (op : List (UInt8 × UInt8)) (ids : List Nat) (e : Nat → AV) (σ : Sto) (nx : Nat) (q : Option (Ex × St))
    (hd : L.drop i = x :: r) (hop : op.length ≤ i) (hI : SI kL L i st op ids e σ nx)
    (hq : roundsE (evC II EE (withOpt [oPl 33] pf) MX (bodyL Tryd.f26 0)) (n + 1) ⟨e, σ, nx⟩ = q) (hb : begM x = false) (hbad : x = [] ∨ 1 < x.length ∨ (∃ a, x = [a] ∧ endM x = true ∧ op = [])) :
    ∃ e' σ' nx', q = some (.ret, ⟨e', σ', nx'⟩) ∧ e' 2 = S [] ∧ e' 3 = B false := by
  obtain ⟨hi, hx, hd'⟩ := strs_drop_head hd
  rw [rounds_rd] at hq
  have hc : ((i : Int) < (L.length : Int)) := by omega
  have hz : (0 : Int) ≤ (i : Int) := by omega
  have hhd : ((strs L).drop i).head? = some (S x) := by rw [strs_drop, hd]; rfl
  have h20 := hI.e20
  have h21 := hI.e21
  have h22 := hI.e22
  have hsL := hI.sL
  have h5 := hI.h5
  have hbe := begins_ev x
  rw [hb] at hbe
  simp only [bodyL, bodyOf, Tryd.f26, SA, loops, List.nil_append, List.append_nil, List.cons_append, List.getD_cons_zero, List.getD_cons_succ] at hq
  rcases hbad with rfl | hlen | ⟨a, rfl, he, rfl⟩
  · simp only [h20, h21, h22, hsL, hc, hz, hhd, hbe, TMA, Int.toNat_natCast, Nat.mul_one, Nat.zero_add, RR, IA, PA, RA0, RA1, RA2, RA3, RA4, RA5, RA6, RA7, RA8, RA9, RA10, Nat.reduceAdd, Nat.reduceMul, Nat.reduceEqDiff, Nat.reduceLeDiff, Nat.reduceLT, Int.reduceToNat, Int.reduceLT, Int.reduceLE, Int.reduceEq, Int.reduceNeg, Int.reduceAdd, Int.reduceSub, Int.reduceMul, reduceIte] at hq
    exact ⟨_, _, _, hq.symm, rfl, rfl⟩
  · obtain ⟨a, b, l, rfl⟩ : ∃ a b l, x = a :: b :: l := by
      match x, hlen with
      | a :: b :: l, _ => exact ⟨a, b, l, rfl⟩
    have hl1 : ((1 : Int) < ((l.length + 1 + 1 : Nat) : Int)) := by omega
    simp only [h20, h21, h22, hsL, hc, hz, hhd, hbe, hl1, TMA, Int.toNat_natCast, Nat.mul_one, Nat.zero_add, RR, IA, PA, RA0, RA1, RA2, RA3, RA4, RA5, RA6, RA7, RA8, RA9, RA10, Nat.reduceAdd, Nat.reduceMul, Nat.reduceEqDiff, Nat.reduceLeDiff, Nat.reduceLT, Int.reduceToNat, Int.reduceLT, Int.reduceLE, Int.reduceEq, Int.reduceNeg, Int.reduceAdd, Int.reduceSub, Int.reduceMul, reduceIte] at hq
    exact ⟨_, _, _, hq.symm, rfl, rfl⟩
  · have hen := isEnd_ev [a]
    rw [he] at hen
    have hl5 := fun t a b c => len_lsp h5 (t := t) (a := a) (b := b) (c := c)
    simp only [h20, h21, h22, hsL, hc, hz, hhd, hbe, hen, len_lsp h5, List.length_nil, TMA, Int.toNat_natCast, Nat.mul_one, Nat.zero_add, RR, IA, PA, RA0, RA1, RA2, RA3, RA4, RA5, RA6, RA7, RA8, RA9, RA10, Nat.reduceAdd, Nat.reduceMul, Nat.reduceEqDiff, Nat.reduceLeDiff, Nat.reduceLT, Int.reduceToNat, Int.reduceLT, Int.reduceLE, Int.reduceEq, Int.reduceNeg, Int.reduceAdd, Int.reduceSub, Int.reduceMul, reduceIte] at hq
    exact ⟨_, _, _, hq.symm, rfl, rfl⟩
end
end Go.Proofs.YtkilalabmbdmkaaDoor.Ev

/-
Code: the implementation's loop: terms are made.
-/
namespace Go.Proofs.YtkilalabmbdmkaaDoor.Ev
section
set_option linter.unusedVariables false
set_option linter.unusedSimpArgs false
open Go Go.RowKit
set_option linter.unusedVariables false
set_option linter.unusedSimpArgs false
theorem AllP.one {l : List AV} {t : T} (h : AllP l [t]) : ∃ p, l = [p] ∧ IsP p t := by
  cases h with
  | cons h k => cases k; exact ⟨_, rfl, h⟩
theorem AllP.two {l : List AV} {t u : T} (h : AllP l [t, u]) : ∃ p q, l = [p, q] ∧ IsP p t ∧ IsP q u := by
  cases h with
  | cons h k =>
    obtain ⟨q, rfl, hq⟩ := k.one
    exact ⟨_, q, rfl, h, hq⟩
theorem AllP.none {l : List AV} (h : AllP l []) : l = [] := by cases h; rfl
/-- The stack behind a round. -/
theorem stk_next {σ' : Sto} {all : List AV} {st : List T} {m id2 kb k2 : Nat} {s v : List UInt8} {t' : T} (hall : AllP all st.reverse) (hm : m ≤ st.length) (h1 : σ' id2 = some (.row 38 1 (st.length - m + 1) (all.take (st.length - m) ++ [.r kb 0])))
    (h2 : σ' kb = some (.ob 56 [S s, S v, .w k2 0 m])) (h3 : σ' k2 = some (.row 38 1 m ((all.drop (st.length - m)).take m))) (hp : IsP (.p [S s, S v, .s false m ((all.drop (st.length - m)).take m)]) t') (n1 : id2 ≠ kb) (n2 : id2 ≠ k2) (n3 : kb ≠ k2) :
    StkOk σ' (.w id2 0 (st.length - m + 1)) (t' :: st.drop m) [id2, kb, k2] := by
  have hl : all.length = st.length := by rw [hall.len]; simp
  have e1 : (st.drop m).length + 1 = st.length - m + 1 := by simp
  refine .inr ⟨id2, kb, k2, all.take (st.length - m), t', st.drop m, ⟨s, v, m, (all.drop (st.length - m)).take m, h2, h3, ?_, ?_, hp⟩, rfl, by rw [e1], by rw [e1]; exact h1, ?_, rfl, n1, n2, n3⟩
  · exact ((hall.drop _).take _).closed
  · simp only [List.length_take, List.length_drop]; omega
  · have := hall.take (st.length - m)
    rwa [List.take_reverse, show st.length - (st.length - m) = m by omega] at this
theorem pc_of {all : List AV} {st : List T} {m : Nat} (hall : AllP all st.reverse) (hm : m ≤ st.length) : AllP ((all.drop (st.length - m)).take m) (st.take m).reverse := by
  have h := (hall.drop (st.length - m)).take m
  rw [List.drop_reverse, show st.length - (st.length - m) = m by omega, List.take_of_length_le (i := m) (l := (st.take m).reverse) (by simp; omega)] at h
  exact h
def Obj1.frame {σ τ : Sto} {k k' : Nat} {t : T} (o : Obj1 σ k k' t) (h1 : τ k = σ k) (h2 : τ k' = σ k') : Obj1 τ k k' t := ⟨o.s, o.v, o.m, o.pc, by rw [h1, o.hk], by rw [h2, o.hk'], o.hc, o.hl, o.hp⟩
theorem clone_key (σ : Sto) (key id k k' N n : Nat) (ds cs : List AV) : cloneS σ key id k k' N n ds cs key = some (.row 38 1 n cs) := by simp [cloneS, upd]
theorem clone_id {σ : Sto} {key id k k' N n : Nat} {ds cs : List AV} (h : id ≠ key) : cloneS σ key id k k' N n ds cs id = some (.row 38 1 N ds) := by simp [cloneS, upd, h]
theorem clone_other {σ : Sto} {key id k k' N n : Nat} {ds cs : List AV} {j : Nat} (h1 : j ≠ key) (h2 : j ≠ id) (h3 : j ≠ k) (h4 : j ≠ k') : cloneS σ key id k k' N n ds cs j = σ j := by simp [cloneS, upd, killL, frz, h1, h2, h3, h4]
theorem call_cloned {pf' : FuncId → Nat} {σ σ1 : Sto} {key id lo n k k' N : Nat} {t : T} {cl : List AV} (o : Obj1 σ k k' t) (hp : pf' 43 = 2) (hk : σ1 k = σ k) (hk' : σ1 k' = σ k') (hcl : closedL cl = true) (hcf : cl.all leafOk = true) (hN : cl.length + 1 = N) (hσ : σ1 id = some (.row 38 1 N (cl ++ [.r k 0])))
    (h1 : id ≠ k) (h2 : id ≠ k') (h3 : k ≠ k') (hln : lo + n ≤ N) (hn : n ≤ 1000000) :
    callOp EE pf' σ1 key 43 [.w id lo n] = some (.w key 0 n, cloneS σ1 key id k k' N n (cl ++ [o.ptr]) (((cl ++ [o.ptr]).drop lo).take n)) := by
  subst hN
  exact call_clone hp (o.frame hk hk') hcl hcf hσ h1 h2 h3 hln hn
/-- The run at an instruction of one byte that ends nothing; the stack is not empty. -/
theorem TermOf_one (kL : Nat) (L : List (List UInt8)) (hL : L.length < 100000000) (x : UInt8) (r : List (List UInt8)) (i n : Nat) (st : List T) (op : List (UInt8 × UInt8)) (ids : List Nat) (e : Nat → AV) (σ : Sto) (nx : Nat) (q : Option (Ex × St)) (av : AV)
    (hd : L.drop i = [x] :: r) (hst : st.length ≤ i) (hop : op.length ≤ i) (hI : SI kL L i st op ids e σ nx) (h0 : e 0 = av)
    (hq : roundsE (evC II EE (withOpt [oPl 33] pf) MX (bodyL Tryd.f26 0)) (n + 1) ⟨e, σ, nx⟩ = q) (he : endM [x] = false) (m : Nat) (ha : arM [x] = (m : Int)) (hm : m ≤ st.length) (hm2 : m ≤ 2) (hne : st ≠ []) (t' : T)
    (hp : ∀ pc, AllP pc (st.take m).reverse → IsP (.p [S [x], S [], .s false m pc]) t') :
    ∃ e' σ' nx' ids', roundsE (evC II EE (withOpt [oPl 33] pf) MX (bodyL Tryd.f26 0)) n ⟨e', σ', nx'⟩ = q ∧ SI kL L (i + 1) (t' :: st.drop m) op ids' e' σ' nx' ∧ e' 0 = av := by
  obtain ⟨hi, hx, hd'⟩ := strs_drop_head hd
  rw [rounds_rd] at hq
  have hc : ((i : Int) < (L.length : Int)) := by omega
  have hz : (0 : Int) ≤ (i : Int) := by omega
  have hhd : ((strs L).drop i).head? = some (S [x]) := by rw [strs_drop, hd]; rfl
  have hw : IntKind.i64.wrap ((i : Int) + 1) = ((i + 1 : Nat) : Int) := by rw [wrap64 (by omega) (by omega)]; rfl
  have h20 := hI.e20
  have h21 := hI.e21
  have h22 := hI.e22
  have hsL := hI.sL
  have h5 := hI.h5
  have hbe : EE 40 [S [x]] = some (B false) := begins_ev [x]
  have hen := isEnd_ev [x]
  rw [he] at hen
  have har := arity_ev x
  rw [ha] at har
  simp only [bodyL, bodyOf, Tryd.f26, SA, loops, List.nil_append, List.append_nil, List.cons_append, List.getD_cons_zero, List.getD_cons_succ] at hq
  rcases hI.h4 with ⟨_, h, _⟩ | ⟨id, k, k', cl, t, r0, o, rfl, h4, hσ, hcl, rfl, n1, n2, n3⟩
  · exact absurd h hne
  have hlm : ¬ (((r0.length + 1 : Nat) : Int) < (m : Int)) := by simp only [List.length_cons] at hm; omega
  have hws : IntKind.i64.wrap (((r0.length + 1 : Nat) : Int) - (m : Int)) = ((r0.length + 1 - m : Nat) : Int) := by
    simp only [List.length_cons] at hm hst
    rw [wrap64 (by omega) (by omega)]; omega
  simp only [h20, h21, h22, hsL, hc, hz, hhd, hbe, hen, har, h4, hlm, hws, TMA, Int.toNat_natCast, Nat.mul_one, Nat.zero_add, cut_w_lo, RR, IA, PA, RA0, RA1, RA2, RA3, RA4, RA5, RA6, RA7, RA8, RA9, RA10, Nat.reduceAdd, Nat.reduceMul, Nat.reduceEqDiff, Nat.reduceLeDiff, Nat.reduceLT, Int.reduceToNat, Int.reduceLT, Int.reduceLE, Int.reduceEq, Int.reduceNeg, Int.reduceAdd, Int.reduceSub, Int.reduceMul, reduceIte] at hq
  have hcll : cl.length = r0.length := by rw [hcl.len]; simp
  have hmr : m ≤ r0.length + 1 := hm
  have hNm : r0.length + 1 - (r0.length + 1 - m) = m := by omega
  have hcon : (0 : Int) ≤ ((r0.length + 1 - m : Nat) : Int) ∧ ((r0.length + 1 - m : Nat) : Int) ≤ ((r0.length + 1 : Nat) : Int) := ⟨by omega, by omega⟩
  rw [if_pos hcon] at hq
  simp only [hNm, RR, IA, PA, RA0, RA1, RA2, RA3, RA4, RA5, RA6, RA7, RA8, RA9, RA10, Nat.reduceAdd, Nat.reduceMul, Nat.reduceEqDiff, Nat.reduceLeDiff, Nat.reduceLT, Int.reduceToNat, Int.reduceLT, Int.reduceLE, Int.reduceEq, Int.reduceNeg, Int.reduceAdd, Int.reduceSub, Int.reduceMul, reduceIte] at hq
  obtain ⟨g1, g2, g3⟩ := hI.idn id (by simp)
  obtain ⟨gk1, gk2, gk3⟩ := hI.idn k (by simp)
  obtain ⟨gp1, gp2, gp3⟩ := hI.idn k' (by simp)
  have hkLn := hI.kLn
  have hst2 : r0.length + 1 ≤ i := hst
  rw [call_cloned o (by rfl) (by rw [upd, if_neg (by omega)]) (by rw [upd, if_neg (by omega)]) hcl.closed hcl.leaf (by rw [hcll]) (by rw [upd, if_neg (by omega), hσ]) n1 n2 n3 (by omega) (by omega)] at hq
  generalize hτ : cloneS _ _ _ _ _ _ _ _ _ = τ at hq
  have t1 := (congrFun hτ _).symm.trans (clone_key ..)
  have t2 := (congrFun hτ id).symm.trans (clone_id (by omega))
  have t3 : ∀ j, j ≠ _ → j ≠ id → j ≠ k → j ≠ k' → τ j = _ := fun j h1 h2 h3 h4 => (congrFun hτ j).symm.trans (clone_other h1 h2 h3 h4)
  clear hτ
  have t4 := t3 (nx + 4 + 12 + 8 + 64 + 8) (by omega) (by omega) (by omega) (by omega)
  rw [upd, if_pos rfl] at t4
  simp only [t4, h4, hws, cut_w_hi, RR, IA, PA, RA0, RA1, RA2, RA3, RA4, RA5, RA6, RA7, RA8, RA9, RA10, Nat.reduceAdd, Nat.reduceMul, Nat.reduceEqDiff, Nat.reduceLeDiff, Nat.reduceLT, Int.reduceToNat, Int.reduceLT, Int.reduceLE, Int.reduceEq, Int.reduceNeg, Int.reduceAdd, Int.reduceSub, Int.reduceMul, reduceIte] at hq
  rw [if_pos hcon] at hq
  have hall : AllP (cl ++ [o.ptr]) (t :: r0).reverse := by
    rw [List.reverse_cons]
    exact hcl.app (.cons o.hp .nil)
  have hal : (cl ++ [o.ptr]).length = r0.length + 1 := by rw [hall.len]; simp
  rw [app_part (n' := r0.length + 1) (cs := cl ++ [o.ptr]) (by rw [upd, if_neg (by omega)]; exact t2) (by decide) (by rfl) (by rfl) (by show (r0.length + 1 - m) * 1 ≤ _; rw [hal]; omega) (by omega) (by omega) (by omega)] at hq
  simp only [h22, hw, RR, IA, PA, RA0, RA1, RA2, RA3, RA4, RA5, RA6, RA7, RA8, RA9, RA10, Nat.reduceAdd, Nat.reduceMul, Nat.reduceEqDiff, Nat.reduceLeDiff, Nat.reduceLT, Int.reduceToNat, Int.reduceLT, Int.reduceLE, Int.reduceEq, Int.reduceNeg, Int.reduceAdd, Int.reduceSub, Int.reduceMul, reduceIte] at hq
  have e1 : r0.length + 1 - m = (t :: r0).length - m := rfl
  refine ⟨_, _, _, [nx + 4 + 12 + 8 + 64 + 28 + 8 + 16 + 44 + 32, nx + 4 + 12 + 8 + 64 + 8, nx + 4 + 12 + 8 + 64 + 28 + 8 + 16 + 28], hq, ⟨h20, ?_, by omega, h21, rfl, ?_, ?_, ?_, hI.o5⟩, h0⟩
  · simp only [upd]
    rw [if_neg (by omega), if_neg (by omega), if_neg (by omega), t3 kL (by omega) (by omega) (by omega) (by omega), upd, if_neg (by omega), hsL]
  · change StkOk _ (.w (nx + 4 + 12 + 8 + 64 + 28 + 8 + 16 + 44 + 32) 0 ((t :: r0).length - m + 1)) (t' :: (t :: r0).drop m) _
    refine stk_next (id2 := nx + 4 + 12 + 8 + 64 + 28 + 8 + 16 + 44 + 32) (kb := nx + 4 + 12 + 8 + 64 + 8) (k2 := nx + 4 + 12 + 8 + 64 + 28 + 8 + 16 + 28) (s := [x]) (v := []) (all := cl ++ [o.ptr]) hall hm ?_ ?_ ?_ (hp _ (pc_of hall hm)) (by omega) (by omega) (by omega)
    · simp only [upd, if_true, Nat.mul_one]
      rfl
    · simp only [upd]
      rw [if_neg (by omega), if_neg (by omega)]
      simp only [if_true]
    · simp only [upd]
      rw [if_neg (by omega), if_neg (by omega), if_neg (by omega), t1]
      rfl
  · refine h5.frame (fun j hj => ?_) (by omega)
    have q1 := h5.n j hj
    have q2 : j ≠ id := fun e => g3 (e ▸ hj)
    have q3 : j ≠ k := fun e => gk3 (e ▸ hj)
    have q4 : j ≠ k' := fun e => gp3 (e ▸ hj)
    simp only [upd]
    rw [if_neg (by omega), if_neg q2, if_neg (by omega), t3 j (by omega) q2 q3 q4, upd, if_neg (by omega)]
  · intro j hj
    have hown : ∀ j ∈ own (e 5), j < nx := h5.n
    simp only [List.mem_cons, List.not_mem_nil, or_false] at hj
    refine ⟨by omega, by omega, fun h => ?_⟩
    have := hown j h
    omega
end
end Go.Proofs.YtkilalabmbdmkaaDoor.Ev

/-
Code: the implementation's loop: the first term, too few terms, ends of loops.
-/
namespace Go.Proofs.YtkilalabmbdmkaaDoor.Ev
section
set_option linter.unusedVariables false
set_option linter.unusedSimpArgs false
open Go Go.RowKit
set_option linter.unusedVariables false
set_option linter.unusedSimpArgs false
theorem call_clone0 {pf' : FuncId → Nat} {σ : Sto} {key : Nat} (hp : pf' 43 = 2) :
    callOp EE pf' σ key 43 [.s true 0 []] = some (.w key 0 0, upd σ key (some (.row 38 1 0 []))) := by
  have hE : EE 43 [.s true 0 []] = some (.t [.o 38 1 0 [], .t [.s true 0 []]]) := EE_hand rfl
  rw [call2_eq hp]
  have e1 : needs σ [.s true 0 []] = [] := rfl
  have e3 : deepC (pack1 (frz0 σ [])) [.s true 0 []] = some ([.s true 0 []], []) := rfl
  rw [e1, e3]
  simp only [Option.bind_some, lend1]
  rw [if_pos (by simp), hE]
  simp only [Option.bind_some, lend2, e1, frz0, back]
  rw [if_pos (by simp [room])]
  rfl
theorem TermOf_few (kL : Nat) (L : List (List UInt8)) (hL : L.length < 100000000) (x : UInt8) (r : List (List UInt8)) (i n : Nat) (st : List T) (op : List (UInt8 × UInt8)) (ids : List Nat) (e : Nat → AV) (σ : Sto) (nx : Nat) (q : Option (Ex × St))
    (hd : L.drop i = [x] :: r) (hst : st.length ≤ i) (hI : SI kL L i st op ids e σ nx)
    (hq : roundsE (evC II EE (withOpt [oPl 33] pf) MX (bodyL Tryd.f26 0)) (n + 1) ⟨e, σ, nx⟩ = q) (he : endM [x] = false) (m : Nat) (ha : arM [x] = (m : Int)) (hm : st.length < m) :
    ∃ e' σ' nx', q = some (.ret, ⟨e', σ', nx'⟩) ∧ e' 2 = S [] ∧ e' 3 = B false := by
  obtain ⟨hi, hx, hd'⟩ := strs_drop_head hd
  rw [rounds_rd] at hq
  have hc : ((i : Int) < (L.length : Int)) := by omega
  have hz : (0 : Int) ≤ (i : Int) := by omega
  have hhd : ((strs L).drop i).head? = some (S [x]) := by rw [strs_drop, hd]; rfl
  have hw : IntKind.i64.wrap ((i : Int) + 1) = ((i + 1 : Nat) : Int) := by rw [wrap64 (by omega) (by omega)]; rfl
  have h20 := hI.e20
  have h21 := hI.e21
  have h22 := hI.e22
  have hsL := hI.sL
  have h5 := hI.h5
  have hbe : EE 40 [S [x]] = some (B false) := begins_ev [x]
  have hen := isEnd_ev [x]
  rw [he] at hen
  have har := arity_ev x
  rw [ha] at har
  simp only [bodyL, bodyOf, Tryd.f26, SA, loops, List.nil_append, List.append_nil, List.cons_append, List.getD_cons_zero, List.getD_cons_succ] at hq
  have hlm : ((st.length : Int) < (m : Int)) := by omega
  simp only [h20, h21, h22, hsL, hc, hz, hhd, hbe, hen, har, len_stk hI.h4, hlm, TMA, Int.toNat_natCast, Nat.mul_one, Nat.zero_add, cut_w_lo, RR, IA, PA, RA0, RA1, RA2, RA3, RA4, RA5, RA6, RA7, RA8, RA9, RA10, Nat.reduceAdd, Nat.reduceMul, Nat.reduceEqDiff, Nat.reduceLeDiff, Nat.reduceLT, Int.reduceToNat, Int.reduceLT, Int.reduceLE, Int.reduceEq, Int.reduceNeg, Int.reduceAdd, Int.reduceSub, Int.reduceMul, reduceIte] at hq
  have hs : ∀ X Y, lenK (upd σ X Y) (e 4) (some ⟨.sl 38, 1, 24, [.slice none 0 0]⟩) = some (N st.length, upd σ X Y) := fun X Y => by
    rcases hI.h4 with ⟨h, rfl, rfl⟩ | ⟨id, k, k', cl, t, r, o, rfl, h2, h3, _⟩
    · rw [h]; rfl
    · rw [h2]; rfl
  simp only [hs, hlm, TMA, RR, IA, PA, RA0, RA1, RA2, RA3, RA4, RA5, RA6, RA7, RA8, RA9, RA10, Nat.reduceAdd, Nat.reduceMul, Nat.reduceEqDiff, Nat.reduceLeDiff, Nat.reduceLT, Int.reduceToNat, Int.reduceLT, Int.reduceLE, Int.reduceEq, Int.reduceNeg, Int.reduceAdd, Int.reduceSub, Int.reduceMul, reduceIte] at hq
  exact ⟨_, _, _, hq.symm, rfl, rfl⟩
theorem TermOf_first (kL : Nat) (L : List (List UInt8)) (hL : L.length < 100000000) (x : UInt8) (r : List (List UInt8)) (i n : Nat) (op : List (UInt8 × UInt8)) (ids : List Nat) (e : Nat → AV) (σ : Sto) (nx : Nat) (q : Option (Ex × St)) (av : AV)
    (hd : L.drop i = [x] :: r) (hI : SI kL L i [] op ids e σ nx) (h0 : e 0 = av)
    (hq : roundsE (evC II EE (withOpt [oPl 33] pf) MX (bodyL Tryd.f26 0)) (n + 1) ⟨e, σ, nx⟩ = q) (he : endM [x] = false) (ha : arM [x] = 0) (t' : T)
    (hp : IsP (.p [S [x], S [], .s false 0 []]) t') :
    ∃ e' σ' nx' ids', roundsE (evC II EE (withOpt [oPl 33] pf) MX (bodyL Tryd.f26 0)) n ⟨e', σ', nx'⟩ = q ∧ SI kL L (i + 1) [t'] op ids' e' σ' nx' ∧ e' 0 = av := by
  obtain ⟨hi, hx, hd'⟩ := strs_drop_head hd
  rw [rounds_rd] at hq
  have hc : ((i : Int) < (L.length : Int)) := by omega
  have hz : (0 : Int) ≤ (i : Int) := by omega
  have hhd : ((strs L).drop i).head? = some (S [x]) := by rw [strs_drop, hd]; rfl
  have hw : IntKind.i64.wrap ((i : Int) + 1) = ((i + 1 : Nat) : Int) := by rw [wrap64 (by omega) (by omega)]; rfl
  have h20 := hI.e20
  have h21 := hI.e21
  have h22 := hI.e22
  have hsL := hI.sL
  have h5 := hI.h5
  have hbe : EE 40 [S [x]] = some (B false) := begins_ev [x]
  have hen := isEnd_ev [x]
  rw [he] at hen
  have har := arity_ev x
  rw [ha] at har
  simp only [bodyL, bodyOf, Tryd.f26, SA, loops, List.nil_append, List.append_nil, List.cons_append, List.getD_cons_zero, List.getD_cons_succ] at hq
  rcases hI.h4 with ⟨h4, _, rfl⟩ | ⟨id, k, k', cl, t, r0, o, h, _⟩
  case inr => cases h
  have hkLn := hI.kLn
  simp only [h20, h21, h22, hsL, hc, hz, hhd, hbe, hen, har, h4, TMA, Int.toNat_natCast, Nat.mul_one, Nat.zero_add, cut_w_lo, RR, IA, PA, RA0, RA1, RA2, RA3, RA4, RA5, RA6, RA7, RA8, RA9, RA10, Nat.reduceAdd, Nat.reduceMul, Nat.reduceEqDiff, Nat.reduceLeDiff, Nat.reduceLT, Int.reduceToNat, Int.reduceLT, Int.reduceLE, Int.reduceEq, Int.reduceNeg, Int.reduceAdd, Int.reduceSub, Int.reduceMul, reduceIte] at hq
  have c1 : cut 1 (.s true 0 []) (some (.v (.int .i64 0))) none = some (.s true 0 []) := rfl
  have c2 : cut 1 (.s true 0 []) none (some (.v (.int .i64 0))) = some (.s true 0 []) := rfl
  simp only [c1, RR, IA, PA, RA0, RA1, RA2, RA3, RA4, RA5, RA6, RA7, RA8, RA9, RA10, Nat.reduceAdd, Nat.reduceMul, Nat.reduceEqDiff, Nat.reduceLeDiff, Nat.reduceLT, Int.reduceToNat, Int.reduceLT, Int.reduceLE, Int.reduceEq, Int.reduceNeg, Int.reduceAdd, Int.reduceSub, Int.reduceMul, reduceIte] at hq
  rw [call_clone0 (by rfl)] at hq
  generalize hτ : upd _ _ (some (Slot.row _ _ _ _)) = τ at hq
  have t1 : τ (nx + 4 + 12 + 8 + 64 + 28 + 8 + 16 + 28) = some (.row 38 1 0 []) := by rw [← hτ]; simp only [upd, if_true]
  have t4 : τ (nx + 4 + 12 + 8 + 64 + 8) = some (.ob 56 [S [x], S [], .s true 0 []]) := by
    rw [← hτ]; simp only [upd]; rw [if_neg (by omega)]; simp only [if_true]
  have t3 : ∀ j, j < nx → τ j = σ j := fun j hj => by rw [← hτ]; simp only [upd]; rw [if_neg (by omega), if_neg (by omega)]
  clear hτ
  simp only [t4, h4, c2, RR, IA, PA, RA0, RA1, RA2, RA3, RA4, RA5, RA6, RA7, RA8, RA9, RA10, Nat.reduceAdd, Nat.reduceMul, Nat.reduceEqDiff, Nat.reduceLeDiff, Nat.reduceLT, Int.reduceToNat, Int.reduceLT, Int.reduceLE, Int.reduceEq, Int.reduceNeg, Int.reduceAdd, Int.reduceSub, Int.reduceMul, reduceIte] at hq
  rw [app_s (by decide) (by rfl) (by rfl) (by rfl) (by decide) (by decide) (.inl (by decide))] at hq
  have hw0 : IntKind.i64.wrap ((i : Int) + 1) = ((i + 1 : Nat) : Int) := hw
  simp only [h22, hw0, RR, IA, PA, RA0, RA1, RA2, RA3, RA4, RA5, RA6, RA7, RA8, RA9, RA10, Nat.reduceAdd, Nat.reduceMul, Nat.reduceEqDiff, Nat.reduceLeDiff, Nat.reduceLT, Int.reduceToNat, Int.reduceLT, Int.reduceLE, Int.reduceEq, Int.reduceNeg, Int.reduceAdd, Int.reduceSub, Int.reduceMul, reduceIte] at hq
  have h5 := hI.h5
  refine ⟨_, _, _, [nx + 4 + 12 + 8 + 64 + 28 + 8 + 16 + 44 + 32, nx + 4 + 12 + 8 + 64 + 8, nx + 4 + 12 + 8 + 64 + 28 + 8 + 16 + 28], hq, ⟨h20, ?_, by omega, h21, rfl, ?_, ?_, ?_, hI.o5⟩, h0⟩
  · simp only [upd]
    rw [if_neg (by omega), if_neg (by omega), t3 kL (by omega), hsL]
  · change StkOk _ (.w (nx + 4 + 12 + 8 + 64 + 28 + 8 + 16 + 44 + 32) 0 (([] : List T).length - 0 + 1)) (t' :: ([] : List T).drop 0) _
    refine stk_next (id2 := nx + 4 + 12 + 8 + 64 + 28 + 8 + 16 + 44 + 32) (kb := nx + 4 + 12 + 8 + 64 + 8) (k2 := nx + 4 + 12 + 8 + 64 + 28 + 8 + 16 + 28) (s := [x]) (v := []) (all := []) .nil (Nat.le_refl _) ?_ ?_ ?_ hp (by omega) (by omega) (by omega)
    · simp only [upd, if_true]
      rfl
    · simp only [upd]
      rw [if_neg (by omega)]
      simp only [if_true]
    · simp only [upd]
      rw [if_neg (by omega), if_neg (by omega), t1]
      rfl
  · refine h5.frame (fun j hj => ?_) (by omega)
    have q1 := h5.n j hj
    simp only [upd]
    rw [if_neg (by omega), if_neg (by omega), t3 j q1]
  · intro j hj
    have hown : ∀ j ∈ own (e 5), j < nx := h5.n
    simp only [List.mem_cons, List.not_mem_nil, or_false] at hj
    refine ⟨by omega, by omega, fun h => ?_⟩
    have := hown j h
    omega
theorem end_ar {x : UInt8} (h : endM [x] = true) : arM [x] = 0 := by
  have h2 : x = 93 ∨ x = 125 := by simpa [endM] using h
  rcases h2 with rfl | rfl <;> rfl
theorem drop_last {α : Type} {l pre : List α} {y : α} {n : Nat} (h : l.take n = pre ++ [y]) (hn : n = pre.length + 1) : (l.drop (n - 1)).head? = some y ∧ l.take (n - 1) = pre := by
  subst hn
  have h1 : l[pre.length]? = some y := by
    have := congrArg (fun z => z[pre.length]?) h
    simp only [List.getElem?_take] at this
    simpa using this
  refine ⟨by simpa [List.head?_drop] using h1, ?_⟩
  have := congrArg (List.take pre.length) h
  rw [List.take_take] at this
  simpa using this
theorem TermOf_end (kL : Nat) (L : List (List UInt8)) (hL : L.length < 100000000) (x : UInt8) (r : List (List UInt8)) (i n : Nat) (t t1' : T) (st : List T) (c v : UInt8) (op : List (UInt8 × UInt8)) (ids : List Nat) (e : Nat → AV) (σ : Sto) (nx : Nat) (q : Option (Ex × St)) (av : AV)
    (hd : L.drop i = [x] :: r) (hst : st.length + 2 ≤ i) (hop : op.length + 1 ≤ i) (hI : SI kL L i (t :: t1' :: st) ((c, v) :: op) ids e σ nx) (h0 : e 0 = av)
    (hq : roundsE (evC II EE (withOpt [oPl 33] pf) MX (bodyL Tryd.f26 0)) (n + 1) ⟨e, σ, nx⟩ = q) (he : endM [x] = true) :
    ∃ e' σ' nx' ids', roundsE (evC II EE (withOpt [oPl 33] pf) MX (bodyL Tryd.f26 0)) n ⟨e', σ', nx'⟩ = q ∧ SI kL L (i + 1) (.loop c v t1' t :: st) op ids' e' σ' nx' ∧ e' 0 = av := by
  obtain ⟨hi, hx, hd'⟩ := strs_drop_head hd
  rw [rounds_rd] at hq
  have hc : ((i : Int) < (L.length : Int)) := by omega
  have hz : (0 : Int) ≤ (i : Int) := by omega
  have hhd : ((strs L).drop i).head? = some (S [x]) := by rw [strs_drop, hd]; rfl
  have hw : IntKind.i64.wrap ((i : Int) + 1) = ((i + 1 : Nat) : Int) := by rw [wrap64 (by omega) (by omega)]; rfl
  have h20 := hI.e20
  have h21 := hI.e21
  have h22 := hI.e22
  have hsL := hI.sL
  have h5 := hI.h5
  have hbe : EE 40 [S [x]] = some (B false) := begins_ev [x]
  have hen := isEnd_ev [x]
  rw [he] at hen
  have har := arity_ev x
  have ha := end_ar he
  rw [ha] at har
  simp only [bodyL, bodyOf, Tryd.f26, SA, loops, List.nil_append, List.append_nil, List.cons_append, List.getD_cons_zero, List.getD_cons_succ] at hq
  rcases hI.h4 with ⟨_, h, _⟩ | ⟨id, k, k', cl, t0, r0, o, hst0, h4, hσ, hcl, rfl, n1, n2, n3⟩
  · cases h
  cases hst0
  rcases h5 with ⟨_, h, _⟩ | ⟨id5, n5, cs5, hid5, h5e, hσ5, hl5, hn5, ht5⟩
  · cases h
  rw [opS_cons, ← strs_append, Nat.mul_one] at ht5
  obtain ⟨hy, hz5⟩ := drop_last ht5 (by rw [strs_len, opS_len]; rfl)
  simp only [List.length_cons, Nat.add_sub_cancel] at hy hz5 hn5 h5e
  have hlo : ¬ (((op.length + 1 : Nat) : Int) = 0) := by omega
  have hwo : IntKind.i64.wrap (((op.length + 1 : Nat) : Int) - 1) = ((op.length : Nat) : Int) := by rw [wrap64 (by omega) (by omega)]; omega
  have ho1 : (0 : Int) ≤ ((op.length : Nat) : Int) := by omega
  have ho2 : ((op.length : Nat) : Int) < ((op.length + 1 : Nat) : Int) := by omega
  have ho3 : ((op.length : Nat) : Int) ≤ ((op.length + 1 : Nat) : Int) := by omega
  have hlm : ¬ (((st.length + 1 + 1 : Nat) : Int) < 2) := by omega
  have hws : IntKind.i64.wrap (((st.length + 1 + 1 : Nat) : Int) - 2) = ((st.length : Nat) : Int) := by rw [wrap64 (by omega) (by omega)]; omega
  have hne5 : ¬ (id5 = nx + 4 + 12 + 8 + 64 + 8) := by omega
  simp only [h20, h21, h22, hsL, hc, hz, hhd, hbe, hen, har, h4, h5e, hσ5, hne5, hlo, hwo, ho1, ho2, ho3, hy, hlm, hws, TMA, List.length_cons, Int.toNat_natCast, Nat.mul_one, Nat.zero_add, cut_w_lo, cut_w_hi, RR, IA, PA, RA0, RA1, RA2, RA3, RA4, RA5, RA6, RA7, RA8, RA9, RA10, Nat.reduceAdd, Nat.reduceMul, Nat.reduceEqDiff, Nat.reduceLeDiff, Nat.reduceLT, Int.reduceToNat, Int.reduceLT, Int.reduceLE, Int.reduceEq, Int.reduceNeg, Int.reduceAdd, Int.reduceSub, Int.reduceMul, reduceIte] at hq
  have hcll : cl.length = st.length + 1 := by rw [hcl.len]; simp
  have hcon : (0 : Int) ≤ ((st.length : Nat) : Int) ∧ ((st.length : Nat) : Int) ≤ ((st.length + 1 + 1 : Nat) : Int) := ⟨by omega, by omega⟩
  have hN2 : st.length + 1 + 1 - st.length = 2 := by omega
  rw [if_pos hcon, hN2] at hq
  obtain ⟨g1, g2, g3⟩ := hI.idn id (by simp)
  obtain ⟨gk1, gk2, gk3⟩ := hI.idn k (by simp)
  obtain ⟨gp1, gp2, gp3⟩ := hI.idn k' (by simp)
  have hkLn := hI.kLn
  have i5 : id ≠ id5 := fun e2 => g3 (by rw [h5e]; simp [own, e2])
  have k5 : k ≠ id5 := fun e2 => gk3 (by rw [h5e]; simp [own, e2])
  have p5 : k' ≠ id5 := fun e2 => gp3 (by rw [h5e]; simp [own, e2])
  have l5 : kL ≠ id5 := fun e2 => hI.o5 (by rw [h5e]; simp [own, e2])
  rw [call_cloned o (by rfl) (by rw [upd, if_neg (by omega), upd, if_neg (by omega)]) (by rw [upd, if_neg (by omega), upd, if_neg (by omega)]) hcl.closed hcl.leaf (by rw [hcll]) (by rw [upd, if_neg (by omega), upd, if_neg (by omega), hσ]; rfl) n1 n2 n3 (by omega) (by omega)] at hq
  generalize hτ : cloneS _ _ _ _ _ _ _ _ _ = τ at hq
  have t1 := (congrFun hτ _).symm.trans (clone_key ..)
  have t2 := (congrFun hτ id).symm.trans (clone_id (by omega))
  have t3 : ∀ j, j ≠ _ → j ≠ id → j ≠ k → j ≠ k' → τ j = _ := fun j h1 h2 h3 h4 => (congrFun hτ j).symm.trans (clone_other h1 h2 h3 h4)
  clear hτ
  have t4 := t3 (nx + 4 + 12 + 8 + 64 + 28 + 8 + 28 + 24 + 20) (by omega) (by omega) (by omega) (by omega)
  rw [upd, if_pos rfl] at t4
  simp only [t4, h4, hws, List.length_cons, cut_w_hi, RR, IA, PA, RA0, RA1, RA2, RA3, RA4, RA5, RA6, RA7, RA8, RA9, RA10, Nat.reduceAdd, Nat.reduceMul, Nat.reduceEqDiff, Nat.reduceLeDiff, Nat.reduceLT, Int.reduceToNat, Int.reduceLT, Int.reduceLE, Int.reduceEq, Int.reduceNeg, Int.reduceAdd, Int.reduceSub, Int.reduceMul, reduceIte] at hq
  rw [if_pos hcon] at hq
  have hall : AllP (cl ++ [o.ptr]) (t :: t1' :: st).reverse := by
    rw [List.reverse_cons]
    exact hcl.app (.cons o.hp .nil)
  have hal : (cl ++ [o.ptr]).length = st.length + 1 + 1 := by rw [hall.len]; simp
  rw [app_part (n' := st.length + 1 + 1) (cs := cl ++ [o.ptr]) (by rw [upd, if_neg (by omega)]; exact t2) (by decide) (by rfl) (by rfl) (by show st.length * 1 ≤ _; rw [hal]; omega) (by omega) (by omega) (by omega)] at hq
  simp only [h22, hw, RR, IA, PA, RA0, RA1, RA2, RA3, RA4, RA5, RA6, RA7, RA8, RA9, RA10, Nat.reduceAdd, Nat.reduceMul, Nat.reduceEqDiff, Nat.reduceLeDiff, Nat.reduceLT, Int.reduceToNat, Int.reduceLT, Int.reduceLE, Int.reduceEq, Int.reduceNeg, Int.reduceAdd, Int.reduceSub, Int.reduceMul, reduceIte] at hq
  have hm : 2 ≤ (t :: t1' :: st).length := by simp
  have hpc := pc_of hall hm
  have hp : IsP (.p [S [c], S [v], .s false 2 (((cl ++ [o.ptr]).drop ((t :: t1' :: st).length - 2)).take 2)]) (.loop c v t1' t) := by
    have hpc2 : AllP (((cl ++ [o.ptr]).drop ((t :: t1' :: st).length - 2)).take 2) [t1', t] := hpc
    obtain ⟨p1, p2, e1, e2, e3⟩ := hpc2.two
    rw [e1]
    exact .loop false c v e2 e3
  refine ⟨_, _, _, [nx + 4 + 12 + 8 + 64 + 28 + 8 + 28 + 24 + 32 + 16 + 44 + 32, nx + 4 + 12 + 8 + 64 + 28 + 8 + 28 + 24 + 20, nx + 4 + 12 + 8 + 64 + 28 + 8 + 28 + 24 + 32 + 16 + 28], hq, ⟨h20, ?_, by omega, h21, rfl, ?_, ?_, ?_, ?_⟩, h0⟩
  · simp only [upd]
    rw [if_neg (by omega), if_neg (by omega), if_neg (by omega), t3 kL (by omega) (by omega) (by omega) (by omega), upd, if_neg (by omega), upd, if_neg (by omega), hsL]
  · change StkOk _ (.w (nx + 4 + 12 + 8 + 64 + 28 + 8 + 28 + 24 + 32 + 16 + 44 + 32) 0 ((t :: t1' :: st).length - 2 + 1)) (.loop c v t1' t :: (t :: t1' :: st).drop 2) _
    refine stk_next (id2 := nx + 4 + 12 + 8 + 64 + 28 + 8 + 28 + 24 + 32 + 16 + 44 + 32) (kb := nx + 4 + 12 + 8 + 64 + 28 + 8 + 28 + 24 + 20) (k2 := nx + 4 + 12 + 8 + 64 + 28 + 8 + 28 + 24 + 32 + 16 + 28) (s := [c]) (v := [v]) (all := cl ++ [o.ptr]) hall hm ?_ ?_ ?_ hp (by omega) (by omega) (by omega)
    · simp only [upd, if_true, Nat.mul_one]
      rfl
    · simp only [upd]
      rw [if_neg (by omega), if_neg (by omega)]
      simp only [if_true]
    · simp only [upd]
      rw [if_neg (by omega), if_neg (by omega), if_neg (by omega), t1]
      rfl
  · refine .inr ⟨id5, n5, cs5, by omega, rfl, ?_, hl5, by omega, by rw [Nat.mul_one]; exact hz5⟩
    simp only [upd]
    rw [if_neg (by omega), if_neg (fun e2 => i5 e2.symm), if_neg (by omega), t3 id5 (by omega) (fun e2 => i5 e2.symm) (fun e2 => k5 e2.symm) (fun e2 => p5 e2.symm), upd, if_neg (by omega), upd, if_neg (by omega), hσ5]
  · intro j hj
    simp only [List.mem_cons, List.not_mem_nil, or_false] at hj
    refine ⟨by omega, by omega, ?_⟩
    show j ∉ [id5]
    simp only [List.mem_singleton]
    omega
  · show kL ∉ [id5]
    simp only [List.mem_singleton]
    exact l5
end
end Go.Proofs.YtkilalabmbdmkaaDoor.Ev

/-
Code: the implementation's loop over all instructions; TermOf.
-/
namespace Go.Proofs.YtkilalabmbdmkaaDoor.Ev
section
set_option linter.unusedVariables false
set_option linter.unusedSimpArgs false
open Go Go.RowKit
set_option linter.unusedVariables false
set_option linter.unusedSimpArgs false
theorem TermOf_endfew (kL : Nat) (L : List (List UInt8)) (hL : L.length < 100000000) (x : UInt8) (r : List (List UInt8)) (i n : Nat) (st : List T) (c v : UInt8) (op : List (UInt8 × UInt8)) (ids : List Nat) (e : Nat → AV) (σ : Sto) (nx : Nat) (q : Option (Ex × St))
    (hd : L.drop i = [x] :: r) (hop : op.length + 1 ≤ i) (hI : SI kL L i st ((c, v) :: op) ids e σ nx)
    (hq : roundsE (evC II EE (withOpt [oPl 33] pf) MX (bodyL Tryd.f26 0)) (n + 1) ⟨e, σ, nx⟩ = q) (he : endM [x] = true) (hfew : st.length < 2) :
    ∃ e' σ' nx', q = some (.ret, ⟨e', σ', nx'⟩) ∧ e' 2 = S [] ∧ e' 3 = B false := by
  obtain ⟨hi, hx, hd'⟩ := strs_drop_head hd
  rw [rounds_rd] at hq
  have hc : ((i : Int) < (L.length : Int)) := by omega
  have hz : (0 : Int) ≤ (i : Int) := by omega
  have hhd : ((strs L).drop i).head? = some (S [x]) := by rw [strs_drop, hd]; rfl
  have hw : IntKind.i64.wrap ((i : Int) + 1) = ((i + 1 : Nat) : Int) := by rw [wrap64 (by omega) (by omega)]; rfl
  have h20 := hI.e20
  have h21 := hI.e21
  have h22 := hI.e22
  have hsL := hI.sL
  have h5 := hI.h5
  have hbe : EE 40 [S [x]] = some (B false) := begins_ev [x]
  have hen := isEnd_ev [x]
  rw [he] at hen
  have har := arity_ev x
  have ha := end_ar he
  rw [ha] at har
  simp only [bodyL, bodyOf, Tryd.f26, SA, loops, List.nil_append, List.append_nil, List.cons_append, List.getD_cons_zero, List.getD_cons_succ] at hq
  have hs : ∀ σ', lenK σ' (e 4) (some ⟨.sl 38, 1, 24, [.slice none 0 0]⟩) = some (N st.length, σ') := fun σ' => by
    rcases hI.h4 with ⟨h, rfl, rfl⟩ | ⟨id, k, k', cl, t, r, o, rfl, h2, h3, _⟩
    · rw [h]; rfl
    · rw [h2]; rfl
  rcases h5 with ⟨_, h, _⟩ | ⟨id5, n5, cs5, hid5, h5e, hσ5, hl5, hn5, ht5⟩
  · cases h
  rw [opS_cons, ← strs_append, Nat.mul_one] at ht5
  obtain ⟨hy, hz5⟩ := drop_last ht5 (by rw [strs_len, opS_len]; rfl)
  simp only [List.length_cons, Nat.add_sub_cancel] at hy hz5 hn5 h5e
  have hlo : ¬ (((op.length + 1 : Nat) : Int) = 0) := by omega
  have hwo : IntKind.i64.wrap (((op.length + 1 : Nat) : Int) - 1) = ((op.length : Nat) : Int) := by rw [wrap64 (by omega) (by omega)]; omega
  have ho1 : (0 : Int) ≤ ((op.length : Nat) : Int) := by omega
  have ho2 : ((op.length : Nat) : Int) < ((op.length + 1 : Nat) : Int) := by omega
  have ho3 : ((op.length : Nat) : Int) ≤ ((op.length + 1 : Nat) : Int) := by omega
  have hlm : ((st.length : Int) < 2) := by omega
  have hne5 : ¬ (id5 = nx + 4 + 12 + 8 + 64 + 8) := by omega
  simp only [h20, h21, h22, hsL, hc, hz, hhd, hbe, hen, har, hs, h5e, hσ5, hne5, hlo, hwo, ho1, ho2, ho3, hy, hlm, TMA, List.length_cons, Int.toNat_natCast, Nat.mul_one, Nat.zero_add, cut_w_lo, cut_w_hi, RR, IA, PA, RA0, RA1, RA2, RA3, RA4, RA5, RA6, RA7, RA8, RA9, RA10, Nat.reduceAdd, Nat.reduceMul, Nat.reduceEqDiff, Nat.reduceLeDiff, Nat.reduceLT, Int.reduceToNat, Int.reduceLT, Int.reduceLE, Int.reduceEq, Int.reduceNeg, Int.reduceAdd, Int.reduceSub, Int.reduceMul, reduceIte] at hq
  exact ⟨_, _, _, hq.symm, rfl, rfl⟩
theorem arM_le (x : UInt8) : ∃ m : Nat, arM [x] = (m : Int) ∧ m ≤ 2 ∧ (isOne x = true → m = 1) ∧ (isOne x = false → isTwo x = true → m = 2) ∧ (isOne x = false → isTwo x = false → m = 0) := by
  cases h1 : isOne x
  · cases h2 : isTwo x
    · exact ⟨0, by simp [arM, h1, h2], by omega, by simp, by simp, by simp⟩
    · exact ⟨2, by simp [arM, h1, h2], by omega, by simp, by simp, by simp⟩
  · exact ⟨1, by simp [arM, h1], by omega, by simp, by simp, by simp⟩
theorem TermOf_loop (kL : Nat) (L : List (List UInt8)) (hL : L.length < 100000000) (av : AV) : ∀ (r : List (List UInt8)) (i n : Nat) (st : List T) (op : List (UInt8 × UInt8)) (ids : List Nat) (e : Nat → AV) (σ : Sto) (nx : Nat) (q : Option (Ex × St)),
    L.drop i = r → i ≤ L.length → r.length < n → st.length ≤ i → op.length ≤ i → SI kL L i st op ids e σ nx → e 0 = av →
    roundsE (evC II EE (withOpt [oPl 33] pf) MX (bodyL Tryd.f26 0)) n ⟨e, σ, nx⟩ = q → SR kL L av q (runI r st op) := by
  intro r
  induction r with
  | nil =>
    intro i n st op ids e σ nx q hd hiL hn hst hop hI h0 hq
    have hlen : L.length ≤ i := by simpa using hd
    have hiE : i = L.length := by omega
    subst hiE
    obtain ⟨k, rfl⟩ : ∃ k, n = k + 1 := ⟨n - 1, by omega⟩
    rw [rounds_rd] at hq
    have hc : ¬ ((L.length : Int) < (L.length : Int)) := by omega
    have h21 := hI.e21
    have h22 := hI.e22
    simp only [bodyL, bodyOf, Tryd.f26, SA, loops, List.nil_append, List.append_nil, List.cons_append, List.getD_cons_zero, List.getD_cons_succ] at hq
    simp only [h21, h22, hc, RR, IA, PA, RA0, RA1, RA2, RA3, RA4, RA5, RA6, RA7, RA8, RA9, RA10, Nat.reduceAdd, Nat.reduceMul, Nat.reduceEqDiff, Nat.reduceLeDiff, Nat.reduceLT, Int.reduceToNat, Int.reduceLT, Int.reduceLE, Int.reduceEq, Int.reduceNeg, Int.reduceAdd, Int.reduceSub, Int.reduceMul, reduceIte] at hq
    have hkLn := hI.kLn
    exact ⟨_, _, _, ids, hq.symm, ⟨hI.e20, hI.sL, by omega, h21, h22, hI.h4, hI.h5.frame (fun _ _ => rfl) (by omega), fun j hj => by
      have := hI.idn j hj
      exact ⟨by omega, this.2.1, this.2.2⟩, hI.o5⟩, h0⟩
  | cons x r ih =>
    intro i n st op ids e σ nx q hd hiL hn hst hop hI h0 hq
    obtain ⟨hi, hx, hd'⟩ := strs_drop_head hd
    obtain ⟨k, rfl⟩ : ∃ k, n = k + 1 := ⟨n - 1, by omega⟩
    have hk : r.length < k := by simpa using hn
    cases hb : begM x
    · rcases x with _ | ⟨a, _ | ⟨b, x⟩⟩
      · simp only [runI, doI]
        exact TermOf_bad kL L hL [] r i k st op ids e σ nx q hd hop hI hq hb (.inl rfl)
      · cases he : endM [a]
        · have hne : ¬ (a = 93 ∨ a = 125) := by simpa [endM] using he
          obtain ⟨m, ha, hm2, hm1, hmt, hm0⟩ := arM_le a
          simp only [runI, doI, if_neg hne]
          have step : ∀ (t' : T), m ≤ st.length → (∀ pc, AllP pc (st.take m).reverse → IsP (.p [S [a], S [], .s false m pc]) t') → SR kL L av q (runI r (t' :: st.drop m) op) := by
            intro t' hm hp
            by_cases hs : st = []
            · subst hs
              have hm00 : m = 0 := by simpa using hm
              subst hm00
              obtain ⟨e', σ', nx', ids', h1, h2, h3⟩ := TermOf_first kL L hL a r i k op ids e σ nx q av hd hI h0 hq he ha t' (hp [] (by simpa using AllP.nil))
              exact ih (i + 1) k _ _ _ _ _ _ q hd' (by omega) hk (by simp) (by omega) h2 h3 h1
            · obtain ⟨e', σ', nx', ids', h1, h2, h3⟩ := TermOf_one kL L hL a r i k st op ids e σ nx q av hd hst hop hI h0 hq he m ha hm hm2 hs t' hp
              exact ih (i + 1) k _ _ _ _ _ _ q hd' (by omega) hk (by simp only [List.length_cons, List.length_drop]; omega) (by omega) h2 h3 h1
          cases h1 : isOne a
          · cases h2 : isTwo a
            · obtain rfl := hm0 h1 h2
              simp only [Bool.false_eq_true, if_false]
              refine step (leafI a) (Nat.zero_le _) fun pc hpc => ?_
              have : pc = [] := by simpa using (by simpa using hpc : AllP pc []).none
              subst this
              unfold leafI
              split
              · exact .dig false a
              · exact .var false a
            · obtain rfl := hmt h1 h2
              simp only [Bool.false_eq_true, if_false, if_true]
              match st, hst, hI, step with
              | [], hst, hI, step => exact TermOf_few kL L hL a r i k [] op ids e σ nx q hd hst hI hq he 2 ha (by simp)
              | [t], hst, hI, step => exact TermOf_few kL L hL a r i k [t] op ids e σ nx q hd hst hI hq he 2 ha (by simp)
              | t :: u :: st, hst, hI, step =>
                refine step (.two a u t) (by simp) fun pc hpc => ?_
                obtain ⟨p1, p2, rfl, e2, e3⟩ := AllP.two (by simpa using hpc)
                exact .two false a e2 e3
          · obtain rfl := hm1 h1
            simp only [if_true]
            match st, hst, hI, step with
            | [], hst, hI, step => exact TermOf_few kL L hL a r i k [] op ids e σ nx q hd hst hI hq he 1 ha (by simp)
            | t :: st, hst, hI, step =>
              refine step (.one a t) (by simp) fun pc hpc => ?_
              obtain ⟨p1, rfl, e2⟩ := AllP.one (by simpa using hpc)
              exact .one false a e2
        · have hee : a = 93 ∨ a = 125 := by simpa [endM] using he
          simp only [runI, doI, if_pos hee]
          cases op with
          | nil => exact TermOf_bad kL L hL [a] r i k st [] ids e σ nx q hd hop hI hq hb (.inr (.inr ⟨a, rfl, he, rfl⟩))
          | cons cv op =>
            obtain ⟨c, v⟩ := cv
            simp only [List.length_cons] at hop
            match st, hst, hI with
            | [], hst, hI => exact TermOf_endfew kL L hL a r i k [] c v op ids e σ nx q hd hop hI hq he (by simp)
            | [t], hst, hI => exact TermOf_endfew kL L hL a r i k [t] c v op ids e σ nx q hd hop hI hq he (by simp)
            | t :: u :: st, hst, hI =>
              obtain ⟨e', σ', nx', ids', h1, h2, h3⟩ := TermOf_end kL L hL a r i k t u st c v op ids e σ nx q av hd (by simpa using hst) hop hI h0 hq he
              exact ih (i + 1) k _ _ _ _ _ _ q hd' (by omega) hk (by simp only [List.length_cons] at hst ⊢; omega) (by omega) h2 h3 h1
      · have hd2 : doI (a :: b :: x) st op = none := by
          cases x with
          | nil =>
            have : ¬ (a = 91 ∨ a = 123) := by simpa [begM] using hb
            simp only [doI, if_neg this]
          | cons y x => rfl
        simp only [runI, hd2]
        exact TermOf_bad kL L hL (a :: b :: x) r i k st op ids e σ nx q hd hop hI hq hb (.inr (.inl (by simp)))
    · obtain ⟨a, v, e', σ', nx', rfl, hav, h1, h2, h3⟩ := TermOf_beg kL L hL x r i k st op ids e σ nx q av hd hop hI h0 hq hb
      simp only [runI, doI, if_pos hav]
      exact ih (i + 1) k _ _ _ _ _ _ q hd' (by omega) hk (by omega) (by simp only [List.length_cons]; omega) h2 h3 h1
end
end Go.Proofs.YtkilalabmbdmkaaDoor.Ev

/-
Code: the implementation's TermOf, CodeValid, InstructionsOf.
-/
namespace Go.Proofs.YtkilalabmbdmkaaDoor.Ev
section
set_option linter.unusedVariables false
set_option linter.unusedSimpArgs false
open Go Go.RowKit
set_option linter.unusedVariables false
set_option linter.unusedSimpArgs false
theorem call_text {σ : Sto} {key k k' : Nat} {t : T} (o : Obj1 σ k k' t) (hw : WFL t) (hl : (textT t).length ≤ 1000000) :
    callOp EE (withOpt [oPl 33] pf) σ key 33 [.r k 0] = some (S (textT t), σ) := by
  have hp : withOpt [oPl 33] pf 33 = 0 := withOpt_pl_on (by decide) (by rfl)
  unfold callOp
  rw [if_neg (by rw [hp]; decide), if_neg (by rw [hp]; decide)]
  have h2 : deepC (deep σ 8) [.r k 0] = some ([o.ptr], [k, k']) := by
    simp only [deepC, o.deep 5, Option.bind_some, Option.map_some, List.append_nil]
  rw [h2]
  have h3 := text_evL o.hp hw hl
  simp only [Option.bind_some, Obj1.ptr, h3]
  rw [if_pos (.inr (by rfl))]
  rfl
theorem implTermOf_ev (code : List UInt8) (hl : code.length < 50000000) : EE 26 [S code] = some (match implB code with | some t => .t [S (textT t), B true] | none => .t [S [], B false]) := by
  refine EE_plain T_implTermOf (by decide) (Nat.le_of_ble_eq_true rfl) rfl ?_
  rw [show opt 26 = [oPl 33] from rfl]
  simp only [bodyOf, Tryd.f26, SA]
  by_cases h200 : 200 < code.length
  · have hc : ((200 : Int) < (code.length : Int)) := by omega
    simp only [implB, h200, hc, TMA, RR, IA, PA, RA0, RA1, RA2, RA3, RA4, RA5, RA6, RA7, RA8, RA9, RA10, Nat.reduceAdd, Nat.reduceMul, Nat.reduceEqDiff, Nat.reduceLeDiff, Nat.reduceLT, Int.reduceToNat, Int.reduceLT, Int.reduceLE, Int.reduceEq, Int.reduceNeg, Int.reduceAdd, Int.reduceSub, Int.reduceMul, reduceIte]
  · have hc : ¬ ((200 : Int) < (code.length : Int)) := by omega
    have hsp := split_ev code 32 (by omega)
    have hcl := cutL_len 32 code
    simp only [hc, hsp, strs_closed, TMA, RR, IA, PA, RA0, RA1, RA2, RA3, RA4, RA5, RA6, RA7, RA8, RA9, RA10, Nat.reduceAdd, Nat.reduceMul, Nat.reduceEqDiff, Nat.reduceLeDiff, Nat.reduceLT, Int.reduceToNat, Int.reduceLT, Int.reduceLE, Int.reduceEq, Int.reduceNeg, Int.reduceAdd, Int.reduceSub, Int.reduceMul, reduceIte]
    generalize hq : roundsE _ _ _ = q
    have hloop := TermOf_loop 40 (cutL 32 code) (by omega) (S code) (cutL 32 code) 0 MX [] [] [] _ _ _ q rfl (Nat.zero_le _) (lt_MX (by omega)) (Nat.le_refl _) (Nat.le_refl _) ⟨rfl, rfl, by decide, rfl, rfl, .inl ⟨rfl, rfl, rfl⟩, .inl ⟨rfl, rfl, rfl⟩, fun j hj => absurd hj List.not_mem_nil, by show 40 ∉ []; simp⟩ rfl hq
    clear hq
    cases hr : runI (cutL 32 code) [] [] with
    | none =>
      rw [hr] at hloop
      obtain ⟨e', σ', nx', rfl, h2, h3⟩ := hloop
      simp only [implB, h200, hr, h2, h3, TMA, RR, IA, PA, RA0, RA1, RA2, RA3, RA4, RA5, RA6, RA7, RA8, RA9, RA10, Nat.reduceAdd, Nat.reduceMul, Nat.reduceEqDiff, Nat.reduceLeDiff, Nat.reduceLT, Int.reduceToNat, Int.reduceLT, Int.reduceLE, Int.reduceEq, Int.reduceNeg, Int.reduceAdd, Int.reduceSub, Int.reduceMul, reduceIte]
    | some w =>
      obtain ⟨st, op⟩ := w
      rw [hr] at hloop
      obtain ⟨e', σ', nx', ids, rfl, hI, h0⟩ := hloop
      have hls : ∀ σ', lenK σ' (e' 4) (some ⟨.sl 38, 1, 24, [.slice none 0 0]⟩) = some (N st.length, σ') := fun σ' => by
        rcases hI.h4 with ⟨h, rfl, rfl⟩ | ⟨id, k, k', cl, t, r, o, rfl, h2, h3, _⟩
        · rw [h]; rfl
        · rw [h2]; rfl
      by_cases hn1 : st.length = 1
      · by_cases ho0 : op = []
        · subst ho0
          obtain ⟨t, rfl⟩ : ∃ t, st = [t] := by
            match st, hn1 with
            | [t], _ => exact ⟨t, rfl⟩
          rcases hI.h4 with ⟨_, h, _⟩ | ⟨id, k, k', cl, t0, r0, o, hst0, h4, hσ, hcl2, rfl, n1, n2, n3⟩
          · cases h
          cases hst0
          have hcl0 : cl = [] := by simpa using hcl2.none
          subst hcl0
          have hwl := (runI_l hr (fun t h => absurd h List.not_mem_nil) (fun q h => absurd h List.not_mem_nil)).1 t (by simp)
          have hsz := runI_sz hr
          have hsz2 : (textT t).length ≤ 5 * (cutL 32 code).length := by simpa [szT] using hsz
          have hco := implCodeOf_ev (textT t) (by omega)
          simp only [List.nil_append] at hσ
          simp only [h4, hσ, len_lsp hI.h5, List.length_nil, List.length_cons, TMA, RR, IA, PA, RA0, RA1, RA2, RA3, RA4, RA5, RA6, RA7, RA8, RA9, RA10, Nat.reduceAdd, Nat.reduceMul, Nat.reduceEqDiff, Nat.reduceLeDiff, Nat.reduceLT, Int.reduceToNat, Int.reduceLT, Int.reduceLE, Int.reduceEq, Int.reduceNeg, Int.reduceAdd, Int.reduceSub, Int.reduceMul, reduceIte]
          rw [call_text o hwl (by omega)]
          have himp : implB code = if codeT (textT t) = some code then some t else none := by
            unfold implB
            rw [if_neg h200, hr]
          cases hcd : codeT (textT t) with
          | none =>
            rw [hcd] at hco
            simp only at hco
            rw [himp, hcd, if_neg (by intro h; cases h)]
            simp only [hco, adopt_two (show closed (S []) = true from rfl) (show closed (B false) = true from rfl), TMA, RR, IA, PA, RA0, RA1, RA2, RA3, RA4, RA5, RA6, RA7, RA8, RA9, RA10, Nat.reduceAdd, Nat.reduceMul, Nat.reduceEqDiff, Nat.reduceLeDiff, Nat.reduceLT, Int.reduceToNat, Int.reduceLT, Int.reduceLE, Int.reduceEq, Int.reduceNeg, Int.reduceAdd, Int.reduceSub, Int.reduceMul, reduceIte]
          | some c =>
            rw [hcd] at hco
            simp only at hco
            rw [himp, hcd]
            have hcA : ∀ (σ : Sto) (key : Nat), adopt σ key (.t [S c, B true]) = some (.t [S c, B true], σ) := fun σ key => adopt_two rfl rfl
            by_cases hcc : c = code
            · subst hcc
              have e1 : (c == c) = true := by simp
              simp only [hco, hcA, h0, e1, TMA, RR, IA, PA, RA0, RA1, RA2, RA3, RA4, RA5, RA6, RA7, RA8, RA9, RA10, Nat.reduceAdd, Nat.reduceMul, Nat.reduceEqDiff, Nat.reduceLeDiff, Nat.reduceLT, Int.reduceToNat, Int.reduceLT, Int.reduceLE, Int.reduceEq, Int.reduceNeg, Int.reduceAdd, Int.reduceSub, Int.reduceMul, reduceIte]
            · have e1 : (c == code) = false := by simp [hcc]
              rw [if_neg (by intro h; exact hcc (Option.some.inj h))]
              simp only [hco, hcA, h0, e1, TMA, RR, IA, PA, RA0, RA1, RA2, RA3, RA4, RA5, RA6, RA7, RA8, RA9, RA10, Nat.reduceAdd, Nat.reduceMul, Nat.reduceEqDiff, Nat.reduceLeDiff, Nat.reduceLT, Int.reduceToNat, Int.reduceLT, Int.reduceLE, Int.reduceEq, Int.reduceNeg, Int.reduceAdd, Int.reduceSub, Int.reduceMul, reduceIte]
        · have himp : implB code = none := by
            unfold implB
            rw [if_neg h200, hr]
            obtain ⟨t, rfl⟩ : ∃ t, st = [t] := by
              match st, hn1 with
              | [t], _ => exact ⟨t, rfl⟩
            cases op with
            | nil => exact absurd rfl ho0
            | cons q l => rfl
          have hon : ((0 : Int) < (op.length : Int)) := by
            have : op.length ≠ 0 := by simpa using ho0
            omega
          have hd1 : ((st.length : Int) = 1) := by omega
          rw [himp]
          simp only [hls, hd1, hon, len_lsp hI.h5, TMA, RR, IA, PA, RA0, RA1, RA2, RA3, RA4, RA5, RA6, RA7, RA8, RA9, RA10, Nat.reduceAdd, Nat.reduceMul, Nat.reduceEqDiff, Nat.reduceLeDiff, Nat.reduceLT, Int.reduceToNat, Int.reduceLT, Int.reduceLE, Int.reduceEq, Int.reduceNeg, Int.reduceAdd, Int.reduceSub, Int.reduceMul, reduceIte]
      · have himp : implB code = none := by
          unfold implB
          rw [if_neg h200, hr]
          match st, hn1 with
          | [], _ => rfl
          | x :: y :: l, _ => rfl
        have hd1 : ¬ ((st.length : Int) = 1) := by omega
        rw [himp]
        simp only [hls, hd1, TMA, RR, IA, PA, RA0, RA1, RA2, RA3, RA4, RA5, RA6, RA7, RA8, RA9, RA10, Nat.reduceAdd, Nat.reduceMul, Nat.reduceEqDiff, Nat.reduceLeDiff, Nat.reduceLT, Int.reduceToNat, Int.reduceLT, Int.reduceLE, Int.reduceEq, Int.reduceNeg, Int.reduceAdd, Int.reduceSub, Int.reduceMul, reduceIte]
end
end Go.Proofs.YtkilalabmbdmkaaDoor.Ev

/-
Code: the laws of TermOf and CodeValid.
-/
namespace Go.Proofs.YtkilalabmbdmkaaDoor.Ev
section
set_option linter.unusedVariables false
set_option linter.unusedSimpArgs false
open Go Go.RowKit
set_option linter.unusedVariables false
set_option linter.unusedSimpArgs false
theorem adopt_sb (σ : Sto) (key : Nat) (l : List UInt8) (b : Bool) : adopt σ key (.t [S l, B b]) = some (.t [S l, B b], σ) := adopt_two rfl rfl
end
end Go.Proofs.YtkilalabmbdmkaaDoor.Ev

/-
Terms: the depth of what the term of a code gives: the law.
-/
namespace Go.Proofs.YtkilalabmbdmkaaDoor.Ev
section
set_option linter.unusedVariables false
set_option linter.unusedSimpArgs false
open Go Go.RowKit
set_option linter.unusedVariables false
set_option linter.unusedSimpArgs false
def LC : List Nat := [oLow 4]
theorem plF_LC : plF LC = true := by decide
theorem onC : oMaskOn ∉ LC := by decide
theorem strC : oStrict ∉ LC := by decide
theorem withOptC_lo {pf : FuncId → Nat} {f : Nat} (h : f < 1000000000) : withOpt LC pf f = pf f := withOpt_lo h plF_LC
theorem maskC_lo {pf : FuncId → Nat} {b f : Nat} (h : f < 1000000000) : maskB LC pf b f = pf f := maskB_lo h plF_LC
theorem lookC {pf : FuncId → Nat} {σ : Sto} : lookAt (withOpt LC pf) σ = σ := look_opt strC onC
theorem baseC {pf : FuncId → Nat} (b : Nat) : atBase (withOpt LC pf) b = withOpt LC pf := base_opt onC b
theorem stC {pf : FuncId → Nat} (t' : Nat) (x : AV) : stOk (withOpt LC pf) t' x = true := st_opt onC t' x
theorem regC_off {pf : FuncId → Nat} (id : Nat) (hi : id < 1000000000) (h : decide (id = 4) = false) : inReg (withOpt LC pf) id = withOpt LC pf := by
  simp only [decide_eq_false_iff_not] at h
  exact reg_opt (by
    simp only [LC, List.mem_cons, List.not_mem_nil, or_false, oLow, oReg]
    omega) (by
    simp only [LC, List.mem_cons, List.not_mem_nil, or_false, oLow]
    omega)
theorem regC_4 {pf : FuncId → Nat} : inReg (withOpt LC pf) 4 = maskP LC pf := by
  have h1 : withOpt LC pf (oReg 4) = 0 := by rw [with_hi (by decide), if_neg (by decide)]
  have h2 : withOpt LC pf (oLow 4) = 1 := by rw [with_hi (by decide), if_pos (by decide)]
  unfold inReg
  rw [h1, h2]
  rfl
theorem lookMC {pf : FuncId → Nat} {σ : Sto} (b : Nat) : lookAt (maskB LC pf b) σ = fun i => if i < b then σ i else none := by
  have h1 : maskB LC pf b oStrict = 0 := by
    unfold maskB maskP
    rw [if_neg (by decide), if_neg (by decide), with_hi (by decide), if_neg strC]
  unfold lookAt
  rw [h1, maskB_on, maskB_mask]
  rfl
theorem T_implDepthOfTerm : TT 27 = some (Tryd.f27, bodyOf Tryd.f27) := by kernel_rfl
theorem T_specDepthOfTerm : TT 25 = some (Tryd.f25, bodyOf Tryd.f25) := by kernel_rfl
theorem adopt_encP (σ : Sto) (key : Nat) (x : T) : adopt σ key (encP x) = some (encP x, σ) := by cases x <;> first | rfl | (simp only [adopt, encP]; exact adopt1_closed (by simp only [closed, closedL, encP_closed, Bool.and_self]))
theorem adopt_nilP (σ : Sto) (key : Nat) : adopt σ key nilP = some (nilP, σ) := rfl
theorem given_ev : EE 46 [] = some (.m dep0) := EE_hand rfl
/-- The depth of a text's term. -/
def depT (t : List UInt8) : Int := match rdT t with
  | some x => dpt h0 x
  | none => -1
theorem implDepthOfTerm_ev (t : List UInt8) (hl : t.length < 4611686018427387904) : EE 27 [S t] = some (N (depT t)) := by
  have h := termOf_ev t hl
  refine EE_plain T_implDepthOfTerm (by decide) (Nat.le_of_ble_eq_true rfl) rfl ?_
  rw [show opt 27 = [] from rfl]
  simp only [bodyOf, Tryd.f27, SA]
  cases hr : rdT t with
  | none =>
    rw [hr] at h
    simp only [h, depT, hr, adopt_encP, adopt_nilP, adopt_nb, adopt_zb, zc_len, zc_leaf, TMA, RR, IA, PA, RA0, RA1, RA2, RA3, RA4, RA5, RA6, RA7, RA8, RA9, RA10, Nat.reduceAdd, Nat.reduceMul, Nat.reduceEqDiff, Nat.reduceLeDiff, Nat.reduceLT, Int.reduceToNat, Int.reduceLT, Int.reduceLE, Int.reduceEq, Int.reduceNeg, Int.reduceAdd, Int.reduceSub, Int.reduceMul, reduceIte]
  | some x =>
    rw [hr] at h
    have hd := depth_ev (encP_is x) (rdT_wf hr).1 dep0 h0 maps0 h0_bd
    have hg := given_ev
    simp only [h, hd, hg, pureK_m, depT, hr, adopt_encP, adopt_nilP, adopt_nb, adopt_zb, zc_len, zc_leaf, TMA, RR, IA, PA, RA0, RA1, RA2, RA3, RA4, RA5, RA6, RA7, RA8, RA9, RA10, Nat.reduceAdd, Nat.reduceMul, Nat.reduceEqDiff, Nat.reduceLeDiff, Nat.reduceLT, Int.reduceToNat, Int.reduceLT, Int.reduceLE, Int.reduceEq, Int.reduceNeg, Int.reduceAdd, Int.reduceSub, Int.reduceMul, reduceIte]
set_option maxRecDepth 100000 in
theorem specDepthOfTerm_ev (t : List UInt8) (hl : t.length < 4611686018427387904) : EE 25 [S t] = some (N (depT t)) := by
  have h := l5Read_ev t hl
  refine EE_plain T_specDepthOfTerm (by decide) (Nat.le_of_ble_eq_true rfl) rfl ?_
  rw [show opt 25 = LC from rfl]
  simp only [bodyOf, Tryd.f25, SA]
  cases hr : rdT t with
  | none =>
    rw [hr] at h
    simp only [h, depT, hr, withOptC_lo, maskC_lo, lookC, baseC, stC, regC_off, regC_4, lookMC, adopt_encP, adopt_nilP, adopt_nb, adopt_zb, zc_len, zc_leaf, TMA, RR, IA, PA, RA0, RA1, RA2, RA3, RA4, RA5, RA6, RA7, RA8, RA9, RA10, Nat.reduceAdd, Nat.reduceMul, Nat.reduceEqDiff, Nat.reduceLeDiff, Nat.reduceLT, Int.reduceToNat, Int.reduceLT, Int.reduceLE, Int.reduceEq, Int.reduceNeg, Int.reduceAdd, Int.reduceSub, Int.reduceMul, reduceIte]
  | some x =>
    rw [hr] at h
    have hd := depthS_ev x (rdT_wf hr).1 h0 h0_bd
    simp only [h, depT, hr, withOptC_lo, maskC_lo, lookC, baseC, stC, regC_off, regC_4, lookMC, adopt_encP, adopt_nilP, adopt_nb, adopt_zb, zc_len, zc_leaf, TMA, RR, IA, PA, RA0, RA1, RA2, RA3, RA4, RA5, RA6, RA7, RA8, RA9, RA10, Nat.reduceAdd, Nat.reduceMul, Nat.reduceEqDiff, Nat.reduceLeDiff, Nat.reduceLT, Int.reduceToNat, Int.reduceLT, Int.reduceLE, Int.reduceEq, Int.reduceNeg, Int.reduceAdd, Int.reduceSub, Int.reduceMul, reduceIte]
    rw [call_new_v (by rfl) (by rfl) l5Start_ev (envL_closed h0)]
    simp only [withOptC_lo, maskC_lo, lookC, baseC, stC, regC_off, regC_4, lookMC, adopt_encP, adopt_nilP, adopt_nb, adopt_zb, zc_len, zc_leaf, TMA, RR, IA, PA, RA0, RA1, RA2, RA3, RA4, RA5, RA6, RA7, RA8, RA9, RA10, Nat.reduceAdd, Nat.reduceMul, Nat.reduceEqDiff, Nat.reduceLeDiff, Nat.reduceLT, Int.reduceToNat, Int.reduceLT, Int.reduceLE, Int.reduceEq, Int.reduceNeg, Int.reduceAdd, Int.reduceSub, Int.reduceMul, reduceIte]
    rw [call_ob_v (by rfl) (by rfl) (envL_closed h0) (goesN _) hd (envL_closed h0) rfl (show 1 ≤ 4 by decide)]
    simp only [withOptC_lo, maskC_lo, lookC, baseC, stC, regC_off, regC_4, lookMC, adopt_encP, adopt_nilP, adopt_nb, adopt_zb, zc_len, zc_leaf, TMA, RR, IA, PA, RA0, RA1, RA2, RA3, RA4, RA5, RA6, RA7, RA8, RA9, RA10, Nat.reduceAdd, Nat.reduceMul, Nat.reduceEqDiff, Nat.reduceLeDiff, Nat.reduceLT, Int.reduceToNat, Int.reduceLT, Int.reduceLE, Int.reduceEq, Int.reduceNeg, Int.reduceAdd, Int.reduceSub, Int.reduceMul, reduceIte]
theorem T_implDepthOfCode : TT 10 = some (Tryd.f10, bodyOf Tryd.f10) := by kernel_rfl
theorem T_specDepthOfCode : TT 9 = some (Tryd.f9, bodyOf Tryd.f9) := by kernel_rfl
theorem T_lawDepthOfCode : TT 3 = some (Tryd.f3, bodyOf Tryd.f3) := by kernel_rfl
/-- The depth of the term of a code. -/
def depC (code : List UInt8) : Int := match specB code with
  | some (t, _, _) => dpt h0 t
  | none => -1
theorem implDepthOfCode_ev (code : List UInt8) (hl : code.length < 50000000) : EE 10 [S code] = some (N (depC code)) := by
  have h := implTermOf_ev code hl
  rw [impl_eq] at h
  refine EE_plain T_implDepthOfCode (by decide) (Nat.le_of_ble_eq_true rfl) rfl ?_
  rw [show opt 10 = [] from rfl]
  simp only [bodyOf, Tryd.f10, SA]
  cases hs : specB code with
  | none =>
    rw [hs] at h
    simp only [Option.map_none] at h
    simp only [h, depC, hs, adopt_sb, adopt_encP, adopt_nilP, adopt_nb, adopt_zb, zc_len, zc_leaf, TMA, RR, IA, PA, RA0, RA1, RA2, RA3, RA4, RA5, RA6, RA7, RA8, RA9, RA10, Nat.reduceAdd, Nat.reduceMul, Nat.reduceEqDiff, Nat.reduceLeDiff, Nat.reduceLT, Int.reduceToNat, Int.reduceLT, Int.reduceLE, Int.reduceEq, Int.reduceNeg, Int.reduceAdd, Int.reduceSub, Int.reduceMul, reduceIte]
  | some w =>
    obtain ⟨t, hh, lv⟩ := w
    rw [hs] at h
    simp only [Option.map_some] at h
    have hr := (spec_impl hs).2.2.2.2
    have hd := implDepthOfTerm_ev (textT t) (by have := (rdT_wf hr).2.2; omega)
    rw [show depT (textT t) = dpt h0 t from by unfold depT; rw [hr]] at hd
    simp only [h, hd, depC, hs, adopt_sb, adopt_encP, adopt_nilP, adopt_nb, adopt_zb, zc_len, zc_leaf, TMA, RR, IA, PA, RA0, RA1, RA2, RA3, RA4, RA5, RA6, RA7, RA8, RA9, RA10, Nat.reduceAdd, Nat.reduceMul, Nat.reduceEqDiff, Nat.reduceLeDiff, Nat.reduceLT, Int.reduceToNat, Int.reduceLT, Int.reduceLE, Int.reduceEq, Int.reduceNeg, Int.reduceAdd, Int.reduceSub, Int.reduceMul, reduceIte]
theorem specDepthOfCode_ev (code : List UInt8) (hl : code.length < 50000000) : EE 9 [S code] = some (N (depC code)) := by
  have h := specTermOf_ev code hl
  refine EE_plain T_specDepthOfCode (by decide) (Nat.le_of_ble_eq_true rfl) rfl ?_
  rw [show opt 9 = [] from rfl]
  simp only [bodyOf, Tryd.f9, SA]
  cases hs : specB code with
  | none =>
    rw [hs] at h
    simp only [h, depC, hs, adopt_sb, adopt_encP, adopt_nilP, adopt_nb, adopt_zb, zc_len, zc_leaf, TMA, RR, IA, PA, RA0, RA1, RA2, RA3, RA4, RA5, RA6, RA7, RA8, RA9, RA10, Nat.reduceAdd, Nat.reduceMul, Nat.reduceEqDiff, Nat.reduceLeDiff, Nat.reduceLT, Int.reduceToNat, Int.reduceLT, Int.reduceLE, Int.reduceEq, Int.reduceNeg, Int.reduceAdd, Int.reduceSub, Int.reduceMul, reduceIte]
  | some w =>
    obtain ⟨t, hh, lv⟩ := w
    rw [hs] at h
    have hr := (spec_impl hs).2.2.2.2
    have hd := specDepthOfTerm_ev (textT t) (by have := (rdT_wf hr).2.2; omega)
    rw [show depT (textT t) = dpt h0 t from by unfold depT; rw [hr]] at hd
    simp only [h, hd, depC, hs, adopt_sb, adopt_encP, adopt_nilP, adopt_nb, adopt_zb, zc_len, zc_leaf, TMA, RR, IA, PA, RA0, RA1, RA2, RA3, RA4, RA5, RA6, RA7, RA8, RA9, RA10, Nat.reduceAdd, Nat.reduceMul, Nat.reduceEqDiff, Nat.reduceLeDiff, Nat.reduceLT, Int.reduceToNat, Int.reduceLT, Int.reduceLE, Int.reduceEq, Int.reduceNeg, Int.reduceAdd, Int.reduceSub, Int.reduceMul, reduceIte]
theorem depthOfCode_law (code : List UInt8) : EE 3 [S code] = some (B true) := by
  refine EE_plain T_lawDepthOfCode (by decide) (Nat.le_of_ble_eq_true rfl) rfl ?_
  rw [show opt 3 = [] from rfl]
  simp only [bodyOf, Tryd.f3, SA]
  by_cases hbig : (1048576 : Int) < (code.length : Int)
  · simp only [hbig, RR, IA, PA, RA0, RA1, RA2, RA3, RA4, RA5, RA6, RA7, RA8, RA9, RA10, Nat.reduceAdd, Nat.reduceMul, Nat.reduceEqDiff, Nat.reduceLeDiff, Nat.reduceLT, Int.reduceToNat, Int.reduceLT, Int.reduceLE, Int.reduceEq, Int.reduceNeg, Int.reduceAdd, Int.reduceSub, Int.reduceMul, reduceIte]
  · have hl : code.length < 50000000 := by omega
    have h := implDepthOfCode_ev code hl
    have k := specDepthOfCode_ev code hl
    simp only [hbig, h, k, RR, IA, PA, RA0, RA1, RA2, RA3, RA4, RA5, RA6, RA7, RA8, RA9, RA10, Nat.reduceAdd, Nat.reduceMul, Nat.reduceEqDiff, Nat.reduceLeDiff, Nat.reduceLT, Int.reduceToNat, Int.reduceLT, Int.reduceLE, Int.reduceEq, Int.reduceNeg, Int.reduceAdd, Int.reduceSub, Int.reduceMul, reduceIte]
end
end Go.Proofs.YtkilalabmbdmkaaDoor.Ev
