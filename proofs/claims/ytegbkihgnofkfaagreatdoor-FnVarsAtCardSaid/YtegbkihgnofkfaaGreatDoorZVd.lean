/-
Texts Vd to Vf of the work.
-/
import Derived.Test.YtegbkihgnofkfaaGreatDoorZUm
/-
Code: the implementation's code of a term.
-/
namespace Go.Proofs.YtegbkihgnofkfaaGreatDoor.Ev
section
set_option linter.unusedVariables false
set_option linter.unusedSimpArgs false
open Go Go.RowKit
set_option linter.unusedVariables false
set_option linter.unusedSimpArgs false
theorem joinTail_len : ∀ (l : List (List UInt8)), (∀ y ∈ l, y.length ≤ 2) → (Lib.joinTail [32] l).length ≤ 3 * l.length
  | [], _ => by simp [Lib.joinTail]
  | x :: l, h => by
    have h1 := joinTail_len l fun y hy => h y (by simp [hy])
    have h2 := h x (by simp)
    have e : Lib.joinTail [32] (x :: l) = 32 :: (x ++ Lib.joinTail [32] l) := by simp [Lib.joinTail]
    rw [e]
    simp only [List.length_cons, List.length_append]
    omega
theorem joinS_len (l : List (List UInt8)) (h : ∀ y ∈ l, y.length ≤ 2) : (joinS l).length ≤ 3 * l.length := by
  cases l with
  | nil => simp [joinS, Lib.join]
  | cons x l =>
    have h1 := joinTail_len l fun y hy => h y (by simp [hy])
    have h2 := h x (by simp)
    rw [joinS, Lib.join_cons]
    simp only [List.length_cons, List.length_append]
    omega
theorem list_short : ∀ t, ∀ y ∈ listT t, y.length ≤ 2 := by
  intro t
  induction t with
  | dig c => intro y hy; simp only [listT, List.mem_singleton] at hy; subst hy; simp
  | var c => intro y hy; simp only [listT, List.mem_singleton] at hy; subst hy; simp
  | one s x ih =>
    intro y hy
    simp only [listT, List.mem_append, List.mem_singleton] at hy
    rcases hy with hy | rfl
    · exact ih y hy
    · simp
  | two s x y ihx ihy =>
    intro z hz
    simp only [listT, List.mem_append, List.mem_singleton] at hz
    rcases hz with (hz | hz) | rfl
    · exact ihx z hz
    · exact ihy z hz
    · simp
  | loop s v x y ihx ihy =>
    intro z hz
    simp only [listT, List.mem_append, List.mem_singleton] at hz
    rcases hz with ((hz | rfl) | hz) | rfl
    · exact ihx z hz
    · simp
    · exact ihy z hz
    · simp
theorem join_ev (ex : Bool) (l : List (List UInt8)) (h1 : l.length ≤ 140737488355328) (h2 : (joinS l).length ≤ 140737488355328) : EE 16 [.s ex l.length (strs l), S [32]] = some (S (joinS l)) := by
  refine EE_hand ?_
  simp only [hand, handJ, unSL_strs, Option.bind_some, if_true, true_and]
  rw [if_pos ⟨h1, by simpa [joinS] using h2⟩]
  rfl
theorem adopt_enc (σ : Sto) (key : Nat) (x : T) : adopt σ key (encP x) = some (encP x, σ) := by
  have h := encP_closed x
  cases x <;> exact adopt_p (by simpa only [encP, closed] using h)
theorem T_implCodeOf : TT 53 = some (Tryz.f53, bodyOf Tryz.f53) := by kernel_rfl
theorem implCodeOf_ev (t : List UInt8) (hl : t.length < 1000000000) : EE 53 [S t] = some (match codeT t with | some c => .t [S c, B true] | none => .t [S [], B false]) := by
  refine EE_plain T_implCodeOf (by decide) (Nat.le_of_ble_eq_true rfl) rfl ?_
  rw [show opt 53 = [] from rfl]
  simp only [bodyOf, Tryz.f53, SA]
  have h := termOf_ev t (by omega)
  cases hr : rdT t with
  | none =>
    rw [hr] at h
    simp only at h
    simp only [h, codeT, hr, Option.map_none, TMA, RR, IA, PA, RA0, RA1, RA2, RA3, RA4, RA5, RA6, RA7, RA8, RA9, RA10, Nat.reduceAdd, Nat.reduceMul, Nat.reduceEqDiff, Nat.reduceLeDiff, Nat.reduceLT, Int.reduceToNat, Int.reduceLT, Int.reduceLE, Int.reduceEq, Int.reduceNeg, Int.reduceAdd, Int.reduceSub, Int.reduceMul, reduceIte]
  | some x =>
    rw [hr] at h
    simp only at h
    obtain ⟨hw, h80, _⟩ := rdT_wf hr
    have hi := instructions_ev x hw (by omega)
    have hjl := joinS_len (listT x) (list_short x)
    have hj := join_ev false (listT x) (by omega) (by omega)
    simp only [h, hi, codeT, hr, adopt_enc, Option.map_some, strs_closed, encP_closed, TMA, RR, IA, PA, RA0, RA1, RA2, RA3, RA4, RA5, RA6, RA7, RA8, RA9, RA10, Nat.reduceAdd, Nat.reduceMul, Nat.reduceEqDiff, Nat.reduceLeDiff, Nat.reduceLT, Int.reduceToNat, Int.reduceLT, Int.reduceLE, Int.reduceEq, Int.reduceNeg, Int.reduceAdd, Int.reduceSub, Int.reduceMul, reduceIte]
    rw [call0_w (r := .string ⟨(joinS (listT x)).toArray⟩) (by rfl) (by rfl) (by rw [strs_len, Nat.mul_one]) (strs_closed _) (by rfl) (by exact hj)]
    simp only [RR, IA, PA, RA0, RA1, RA2, RA3, RA4, RA5, RA6, RA7, RA8, RA9, RA10, Nat.reduceAdd, Nat.reduceMul, Nat.reduceEqDiff, Nat.reduceLeDiff, Nat.reduceLT, Int.reduceToNat, Int.reduceLT, Int.reduceLE, Int.reduceEq, Int.reduceNeg, Int.reduceAdd, Int.reduceSub, Int.reduceMul, reduceIte]
end
end Go.Proofs.YtegbkihgnofkfaaGreatDoor.Ev

/-
Code: the implementation's stack of terms; slices.Clone of its end.
-/
namespace Go.Proofs.YtegbkihgnofkfaaGreatDoor.Ev
section
set_option linter.unusedVariables false
set_option linter.unusedSimpArgs false
open Go Go.RowKit
set_option linter.unusedVariables false
set_option linter.unusedSimpArgs false
/-- Cells that are terms. -/
inductive AllP : List AV → List T → Prop
  | nil : AllP [] []
  | cons {a : AV} {t : T} {xs : List AV} {ts : List T} (h : IsP a t) (k : AllP xs ts) : AllP (a :: xs) (t :: ts)
theorem AllP.len {xs : List AV} {ts : List T} (h : AllP xs ts) : xs.length = ts.length := by
  induction h with
  | nil => rfl
  | cons h k ih => simp [ih]
theorem AllP.closed {xs : List AV} {ts : List T} (h : AllP xs ts) : closedL xs = true := by
  induction h with
  | nil => rfl
  | cons h k ih => simp only [closedL, h.closed, ih, Bool.and_self]
theorem AllP.leaf {xs : List AV} {ts : List T} (h : AllP xs ts) : xs.all leafOk = true := by
  induction h with
  | nil => rfl
  | cons h k ih => simp only [List.all_cons, h.leaf.2, ih, Bool.and_self]
theorem AllP.app {xs ys : List AV} {ts us : List T} (h : AllP xs ts) (k : AllP ys us) : AllP (xs ++ ys) (ts ++ us) := by
  induction h with
  | nil => exact k
  | cons h _ ih => exact .cons h ih
theorem AllP.take {xs : List AV} {ts : List T} (h : AllP xs ts) : ∀ n, AllP (xs.take n) (ts.take n) := by
  induction h with
  | nil => intro n; simp; exact .nil
  | cons h k ih =>
    intro n
    cases n with
    | zero => exact .nil
    | succ n => exact .cons h (ih n)
theorem AllP.drop {xs : List AV} {ts : List T} (h : AllP xs ts) : ∀ n, AllP (xs.drop n) (ts.drop n) := by
  induction h with
  | nil => intro n; simp; exact .nil
  | cons h k ih =>
    intro n
    cases n with
    | zero => exact .cons h k
    | succ n => exact ih n
/-- A term that is being made: an object whose parts are a row. -/
structure Obj1 (σ : Sto) (k k' : Nat) (t : T) where
  s : List UInt8
  v : List UInt8
  m : Nat
  pc : List AV
  hk : σ k = some (.ob 80 [S s, S v, .w k' 0 m])
  hk' : σ k' = some (.row 78 1 m pc)
  hc : closedL pc = true
  hl : pc.length = m
  hp : IsP (.p [S s, S v, .s false m pc]) t
theorem deep_ob {σ : Sto} {k off T : Nat} {cs : List AV} (d : Nat) (h : σ k = some (.ob T cs)) : deep σ (d + 1) (.r k off) = (deepC (deep σ d) cs).map fun (ds, is) => (.p (ds.drop off), k :: is) := by simp only [deep, h]
theorem deep_fz {σ : Sto} {k off : Nat} {cs : List AV} (d : Nat) (h : σ k = some (.fz cs)) (hc : closedL cs = true) (hn : cs ≠ []) : deep σ (d + 1) (.r k off) = some (.p (cs.drop off), []) := by
  simp only [deep, h]
  rw [if_pos ⟨hc, hn⟩]
def Obj1.ptr {σ : Sto} {k k' : Nat} {t : T} (o : Obj1 σ k k' t) : AV := .p [S o.s, S o.v, .s false o.m o.pc]
theorem Obj1.deep {σ : Sto} {k k' : Nat} {t : T} (o : Obj1 σ k k' t) (d : Nat) : Ev.deep σ (d + 3) (.r k 0) = some (o.ptr, [k, k']) := by
  have h1 : Ev.deep σ (d + 2) (.w k' 0 o.m) = some (.s false o.m o.pc, [k']) := by
    rw [deep_w (d + 1) o.hk' (by have := o.hl; omega) o.hc, List.drop_zero, List.take_of_length_le (by have := o.hl; omega)]
  have h2 : ∀ x : List UInt8, Ev.deep σ (d + 2) (S x) = some (S x, []) := fun x => rfl
  have h3 : deepC (Ev.deep σ (d + 2)) [S o.s, S o.v, .w k' 0 o.m] = some ([S o.s, S o.v, .s false o.m o.pc], [k']) := by
    simp only [deepC, h1, h2, Option.bind_some, Option.map_some, List.nil_append, List.append_nil]
  rw [deep_ob (d + 2) o.hk]
  simp only [h3, Option.map_some]
  rfl
theorem deepC_app (f : AV → Option (AV × List Nat)) : ∀ (xs ys : List AV) {xs' ys' : List AV} {is js : List Nat}, deepC f xs = some (xs', is) → deepC f ys = some (ys', js) → deepC f (xs ++ ys) = some (xs' ++ ys', is ++ js)
  | [], ys, xs', ys', is, js, h, k => by
    simp only [deepC, Option.some.injEq, Prod.mk.injEq] at h
    obtain ⟨rfl, rfl⟩ := h
    simpa using k
  | x :: xs, ys, xs', ys', is, js, h, k => by
    simp only [deepC] at h
    obtain ⟨⟨y, i1⟩, h1, h2⟩ := Option.bind_eq_some_iff.1 h
    obtain ⟨⟨ys1, i2⟩, h3, h4⟩ := Option.map_eq_some_iff.1 h2
    simp only [Prod.mk.injEq] at h4
    obtain ⟨rfl, rfl⟩ := h4
    have := deepC_app f xs ys h3 k
    simp only [List.cons_append, deepC, h1, Option.bind_some, this, Option.map_some, List.append_assoc]
/-- The store behind slices.Clone: the object is told for good. -/
def cloneS (σ : Sto) (key id k k' N n : Nat) (ds cs : List AV) : Sto :=
  upd (upd (killL (frz σ 8 [k, k']) [id]) id (some (.row 78 1 N ds))) key (some (.row 78 1 n cs))
theorem call_clone {pf' : FuncId → Nat} {σ : Sto} {key id lo n k k' : Nat} {t : T} {cl : List AV} (hp : pf' 51 = 2) (o : Obj1 σ k k' t) (hcl : closedL cl = true) (hcf : cl.all leafOk = true) (hσ : σ id = some (.row 78 1 (cl.length + 1) (cl ++ [.r k 0])))
    (h1 : id ≠ k) (h2 : id ≠ k') (h3 : k ≠ k') (hln : lo + n ≤ cl.length + 1) (hn : n ≤ 1000000) :
    callOp EE pf' σ key 51 [.w id lo n] = some (.w key 0 n, cloneS σ key id k k' (cl.length + 1) n (cl ++ [o.ptr]) (((cl ++ [o.ptr]).drop lo).take n)) := by
  have hpc : closed o.ptr = true := o.hp.closed
  have hpl : leafOk o.ptr = true := o.hp.leaf.2
  have d1 : deepC (Ev.deep σ 8) (cl ++ [.r k 0]) = some (cl ++ [o.ptr], [k, k']) := by
    refine deepC_app _ _ _ (is := []) (js := [k, k']) (deepL_closed 8 hcl) ?_
    simp only [deepC, o.deep 5, Option.bind_some, Option.map_some, List.append_nil]
  have e1 : needs σ [.w id lo n] = [k, k'] := by
    simp only [needs, need, hσ, d1, List.append_nil]
  have e2 : frz0 σ [k, k'] = frz σ 8 [k, k'] := rfl
  have f1 : frz σ 8 [k, k'] id = some (.row 78 1 (cl.length + 1) (cl ++ [.r k 0])) := by
    unfold frz
    rw [if_neg (by simp [h1, h2])]
    exact hσ
  have f2 : frz σ 8 [k, k'] k = some (.fz [S o.s, S o.v, .s false o.m o.pc]) := by
    unfold frz
    rw [if_pos (by simp), o.hk]
    have h1 : Ev.deep σ 8 (.w k' 0 o.m) = some (.s false o.m o.pc, [k']) := by
      rw [deep_w 7 o.hk' (by have := o.hl; omega) o.hc, List.drop_zero, List.take_of_length_le (by have := o.hl; omega)]
    have h2 : ∀ x : List UInt8, Ev.deep σ 8 (S x) = some (S x, []) := fun x => rfl
    simp only [Option.bind_some, Slot.cells, deepC, h1, h2, Option.map_some, List.nil_append, List.append_nil]
    simp
  have d2 : deepC (Ev.deep (frz σ 8 [k, k']) 8) (cl ++ [.r k 0]) = some (cl ++ [o.ptr], []) := by
    refine deepC_app _ _ _ (is := []) (js := []) (deepL_closed 8 hcl) ?_
    have h4 : Ev.deep (frz σ 8 [k, k']) 8 (.r k 0) = some (o.ptr, []) := by
      rw [deep_fz 7 f2 (by simpa only [Obj1.ptr, closed] using hpc) (by simp)]
      rfl
    simp only [deepC, h4, Option.bind_some, Option.map_some, List.append_nil]
  have hlen : (cl ++ [o.ptr]).length = cl.length + 1 := by simp
  have hE : EE 51 [.t [.v (.bool false), ni lo, ni n, .o 78 1 (cl.length + 1) (cl ++ [o.ptr])]] = some (.t [.o 78 1 n (((cl ++ [o.ptr]).drop lo).take n), .t [.t [.v (.bool false), ni lo, ni n, .o 78 1 (cl.length + 1) (cl ++ [o.ptr])]]]) := by
    refine EE_hand ?_
    simp only [hand]
    unfold handC
    rw [if_pos rfl]
    simp only [ni]
    rw [if_pos ⟨trivial, trivial, by omega, by omega, by simp only [List.all_append, hcf, List.all_cons, hpl, List.all_nil, Bool.and_self], by simp only [Int.toNat_natCast]; omega, by simp only [Int.toNat_natCast]; omega⟩]
    simp only [Int.toNat_natCast]
  have hcc : closedL (((cl ++ [o.ptr]).drop lo).take n) = true := by
    have hc : closedL (cl ++ [o.ptr]) = true := by simp only [closedL_append, hcl, closedL, hpc, Bool.and_self]
    have e : cl ++ [o.ptr] = (cl ++ [o.ptr]).take lo ++ (((cl ++ [o.ptr]).drop lo).take n ++ ((cl ++ [o.ptr]).drop lo).drop n) := by rw [List.take_append_drop, List.take_append_drop]
    rw [e, closedL_append, closedL_append, Bool.and_eq_true, Bool.and_eq_true] at hc
    exact hc.2.1
  rw [call2_eq hp, e1, e2]
  have e3 : deepC (pack1 (frz σ 8 [k, k'])) [.w id lo n] = some ([.t [.v (.bool false), ni lo, ni n, .o 78 1 (cl.length + 1) (cl ++ [o.ptr])]], [id]) := by
    simp only [deepC, pack1, f1, d2, Option.bind_some, if_true, Option.map_some, List.append_nil]
  rw [e3]
  simp only [Option.bind_some, lend1]
  rw [if_pos (by simp), hE]
  simp only [Option.bind_some, lend2, e1, e2, back, ni]
  rw [if_pos (by simp [room])]
  rw [adopt_o hcc]
  rfl
end
end Go.Proofs.YtegbkihgnofkfaaGreatDoor.Ev

/-
Code: the implementation's loop over instructions.
-/
namespace Go.Proofs.YtegbkihgnofkfaaGreatDoor.Ev
section
set_option linter.unusedVariables false
set_option linter.unusedSimpArgs false
open Go Go.RowKit
set_option linter.unusedVariables false
set_option linter.unusedSimpArgs false
theorem T_implTermOf : TT 36 = some (Tryz.f36, bodyOf Tryz.f36) := by kernel_rfl
/-- The front of a row. -/
def LsP (σ : Sto) (nx E sz : Nat) (v : AV) (n : Nat) (cs : List AV) : Prop :=
  (v = .s true 0 [] ∧ n = 0 ∧ cs = []) ∨ ∃ id n' cs', id < nx ∧ v = .w id 0 n ∧ σ id = some (.row E sz n' cs') ∧ cs'.length = n' * sz ∧ n ≤ n' ∧ cs'.take (n * sz) = cs
def StkOk (σ : Sto) (v : AV) (st : List T) (ids : List Nat) : Prop :=
  (v = .s true 0 [] ∧ st = [] ∧ ids = []) ∨ ∃ id k k' cl t r, ∃ o : Obj1 σ k k' t, st = t :: r ∧ v = .w id 0 (r.length + 1) ∧ σ id = some (.row 78 1 (r.length + 1) (cl ++ [.r k 0])) ∧ AllP cl r.reverse ∧ ids = [id, k, k'] ∧ id ≠ k ∧ id ≠ k' ∧ k ≠ k'
def opS (op : List (UInt8 × UInt8)) : List (List UInt8) := op.reverse.map fun q => [q.1, q.2]
theorem opS_len (op : List (UInt8 × UInt8)) : (opS op).length = op.length := by simp [opS]
theorem opS_cons (q : UInt8 × UInt8) (op : List (UInt8 × UInt8)) : opS (q :: op) = opS op ++ [[q.1, q.2]] := by simp [opS]
theorem LsP.n {σ : Sto} {nx E sz n : Nat} {v : AV} {cs : List AV} (h : LsP σ nx E sz v n cs) : ∀ i ∈ own v, i < nx := by
  intro i hi
  rcases h with ⟨rfl, h⟩ | ⟨id, n', cs', h1, rfl, h2⟩
  · simp [own] at hi
  · simp only [own, List.mem_singleton] at hi
    omega
theorem LsP.frame {σ τ : Sto} {nx nx' E sz n : Nat} {v : AV} {cs : List AV} (h : LsP σ nx E sz v n cs) (hs : ∀ i ∈ own v, τ i = σ i) (hn : nx ≤ nx') : LsP τ nx' E sz v n cs := by
  rcases h with h | ⟨id, n', cs', h1, rfl, h2, h3⟩
  · exact .inl h
  · exact .inr ⟨id, n', cs', by omega, rfl, by rw [hs id (by simp [own]), h2], h3⟩
theorem len_lsp {σ : Sto} {nx E sz : Nat} {v : AV} {n : Nat} {cs : List AV} (h : LsP σ nx E sz v n cs) {t : Nat} {a b : Nat} {c : List Value} : lenK σ v (some ⟨.sl t, a, b, c⟩) = some (N n, σ) := by
  rcases h with ⟨rfl, rfl, rfl⟩ | ⟨id, n', cs', _, rfl, hσ, _⟩ <;> rfl
theorem lsp_app {σ : Sto} {key nx E sz by_ : Nat} {k : TK} {z : List Value} {v : AV} {n m : Nat} {cs news : List AV} (h : LsP σ nx E sz v n cs) (h1 : 0 < sz) (h2 : news.length = m * sz) (h3 : news.all leafOk = true) (h4 : m ≠ 0) (h5 : (n + m) * by_ ≤ 140737488355328) (h6 : n + m ≤ 9223372036854775807) (hk : nx ≤ key) :
    appK σ key E ⟨k, sz, by_, z⟩ v (some (m, news)) = some (.w key 0 (n + m), appSto σ key E sz v (n + m) (cs ++ news)) := by
  rcases h with ⟨rfl, rfl, rfl⟩ | ⟨id, n', cs', hid, rfl, hσ, hl, hn, ht⟩
  · rw [app_s h1 h2 h3 (by simp) h6 h5 (.inl h4)]
    rfl
  · rw [app_part hσ h1 h2 h3 (by rw [hl]; exact Nat.mul_le_mul_right _ hn) h6 h5 (by omega), ht]
    rfl
theorem StkOk.frame {σ τ : Sto} {v : AV} {st : List T} {ids : List Nat} (h : StkOk σ v st ids) (hs : ∀ i ∈ ids, τ i = σ i) : StkOk τ v st ids := by
  rcases h with h | ⟨id, k, k', cl, t, r, o, h1, h2, h3, h4, rfl, h5⟩
  · exact .inl h
  · exact .inr ⟨id, k, k', cl, t, r, ⟨o.s, o.v, o.m, o.pc, by rw [hs k (by simp), o.hk], by rw [hs k' (by simp), o.hk'], o.hc, o.hl, o.hp⟩, h1, h2, by rw [hs id (by simp), h3], h4, rfl, h5⟩
theorem len_stk {σ : Sto} {v : AV} {st : List T} {ids : List Nat} (h : StkOk σ v st ids) {t : Nat} {a b : Nat} {c : List Value} : lenK σ v (some ⟨.sl t, a, b, c⟩) = some (N st.length, σ) := by
  rcases h with ⟨rfl, rfl, rfl⟩ | ⟨id, k, k', cl, t, r, o, rfl, rfl, h3, _⟩
  · rfl
  · rfl
structure SI (kL : Nat) (L : List (List UInt8)) (i : Nat) (st : List T) (op : List (UInt8 × UInt8)) (ids : List Nat) (e : Nat → AV) (σ : Sto) (nx : Nat) : Prop where
  e20 : e 20 = .w kL 0 L.length
  sL : σ kL = some (.row 9 1 L.length (strs L))
  kLn : kL < nx
  e21 : e 21 = N L.length
  e22 : e 22 = N i
  h4 : StkOk σ (e 4) st ids
  h5 : LsP σ nx 9 1 (e 5) op.length (strs (opS op))
  idn : ∀ j ∈ ids, j < nx ∧ j ≠ kL ∧ j ∉ own (e 5)
  o5 : kL ∉ own (e 5)
/-- What a round or all of them leave. -/
def SR (kL : Nat) (L : List (List UInt8)) (a : AV) (q : Option (Ex × St)) : Option (List T × List (UInt8 × UInt8)) → Prop
  | some (st', op') => ∃ e' σ' nx' ids', q = some (.exit 0, ⟨e', σ', nx'⟩) ∧ SI kL L L.length st' op' ids' e' σ' nx' ∧ e' 0 = a
  | none => ∃ e' σ' nx', q = some (.ret, ⟨e', σ', nx'⟩) ∧ e' 2 = S [] ∧ e' 3 = B false
theorem begM_of {x : List UInt8} (h : begM x = true) : ∃ a v, x = [a, v] ∧ (a = 91 ∨ a = 123) := by
  unfold begM at h
  split at h
  · rename_i a v
    exact ⟨a, v, rfl, by simpa using h⟩
  · cases h
theorem TermOf_beg (kL : Nat) (L : List (List UInt8)) (hL : L.length < 100000000) (x : List UInt8) (r : List (List UInt8)) (i n : Nat) (st : List T) (op : List (UInt8 × UInt8)) (ids : List Nat) (e : Nat → AV) (σ : Sto) (nx : Nat) (q : Option (Ex × St)) (av : AV)
    (hd : L.drop i = x :: r) (hop : op.length ≤ i) (hI : SI kL L i st op ids e σ nx) (h0 : e 0 = av)
    (hq : roundsE (evC II EE (withOpt [oPl 52] pf) MX (bodyL Tryz.f36 0)) (n + 1) ⟨e, σ, nx⟩ = q) (hb : begM x = true) :
    ∃ a v e' σ' nx', x = [a, v] ∧ (a = 91 ∨ a = 123) ∧ roundsE (evC II EE (withOpt [oPl 52] pf) MX (bodyL Tryz.f36 0)) n ⟨e', σ', nx'⟩ = q ∧ SI kL L (i + 1) st ((a, v) :: op) ids e' σ' nx' ∧ e' 0 = av := by
  obtain ⟨hi, hx, hd'⟩ := strs_drop_head hd
  obtain ⟨a, v, rfl, hav⟩ := begM_of hb
  rw [rounds_rd] at hq
  have hc : ((i : Int) < (L.length : Int)) := by omega
  have hz : (0 : Int) ≤ (i : Int) := by omega
  have hw : IntKind.i64.wrap ((i : Int) + 1) = ((i + 1 : Nat) : Int) := by rw [wrap64 (by omega) (by omega)]; rfl
  have hhd : ((strs L).drop i).head? = some (S [a, v]) := by rw [strs_drop, hd]; rfl
  have h20 := hI.e20
  have h21 := hI.e21
  have h22 := hI.e22
  have hsL := hI.sL
  have h5 := hI.h5
  have hbe := begins_ev [a, v]
  rw [hb] at hbe
  simp only [bodyL, bodyOf, Tryz.f36, SA, loops, List.nil_append, List.append_nil, List.cons_append, List.getD_cons_zero, List.getD_cons_succ] at hq
  simp only [h20, h21, h22, hsL, hc, hz, hw, hhd, hbe, Int.toNat_natCast, Nat.mul_one, Nat.zero_add, RR, IA, PA, RA0, RA1, RA2, RA3, RA4, RA5, RA6, RA7, RA8, RA9, RA10, Nat.reduceAdd, Nat.reduceMul, Nat.reduceEqDiff, Nat.reduceLeDiff, Nat.reduceLT, Int.reduceToNat, Int.reduceLT, Int.reduceLE, Int.reduceEq, Int.reduceNeg, Int.reduceAdd, Int.reduceSub, Int.reduceMul, reduceIte] at hq
  rw [lsp_app h5 (by decide) (by rfl) (by rfl) (by decide) (by omega) (by omega) (by omega)] at hq
  generalize hτ : appSto _ _ _ _ (e 5) _ _ = τ at hq
  have t1 := (congrFun hτ _).symm.trans (appSto_key ..)
  have t2 : ∀ j, j ≠ _ → j ∉ own (e 5) → τ j = σ j := fun j h1 h2 => (congrFun hτ j).symm.trans (own_other h1 h2)
  clear hτ
  simp only [h22, hw, RR, IA, PA, RA0, RA1, RA2, RA3, RA4, RA5, RA6, RA7, RA8, RA9, RA10, Nat.reduceAdd, Nat.reduceMul, Nat.reduceEqDiff, Nat.reduceLeDiff, Nat.reduceLT, Int.reduceToNat, Int.reduceLT, Int.reduceLE, Int.reduceEq, Int.reduceNeg, Int.reduceAdd, Int.reduceSub, Int.reduceMul, reduceIte] at hq
  have hkL := hI.kLn
  refine ⟨a, v, _, _, _, rfl, hav, hq, ⟨h20, ?_, by omega, h21, rfl, ?_, ?_, ?_, ?_⟩, h0⟩
  · rw [t2 kL (by omega) hI.o5, hsL]
  · exact hI.h4.frame fun j hj => by
      obtain ⟨g1, g2, g3⟩ := hI.idn j hj
      exact t2 j (by omega) g3
  · rw [opS_cons]
    refine .inr ⟨_, _, _, by omega, rfl, t1, ?_, Nat.le_refl _, ?_⟩
    · simp [strs_len, opS_len]
    · rw [List.take_of_length_le (by simp [strs_len, opS_len])]
      simp [strs]
  · intro j hj
    obtain ⟨g1, g2, g3⟩ := hI.idn j hj
    refine ⟨by omega, g2, ?_⟩
    show j ∉ [nx + 4 + 12 + 8 + 12]
    simp only [List.mem_singleton]
    omega
  · show kL ∉ [nx + 4 + 12 + 8 + 12]
    simp only [List.mem_singleton]
    omega
theorem beq_long (a b : UInt8) (l : List UInt8) : ((a :: b :: l : List UInt8) == []) = false := rfl
theorem TermOf_bad (kL : Nat) (L : List (List UInt8)) (hL : L.length < 100000000) (x : List UInt8) (r : List (List UInt8)) (i n : Nat) (st : List T) (op : List (UInt8 × UInt8)) (ids : List Nat) (e : Nat → AV) (σ : Sto) (nx : Nat) (q : Option (Ex × St))
    (hd : L.drop i = x :: r) (hop : op.length ≤ i) (hI : SI kL L i st op ids e σ nx)
    (hq : roundsE (evC II EE (withOpt [oPl 52] pf) MX (bodyL Tryz.f36 0)) (n + 1) ⟨e, σ, nx⟩ = q) (hb : begM x = false) (hbad : x = [] ∨ 1 < x.length ∨ (∃ a, x = [a] ∧ endM x = true ∧ op = [])) :
    ∃ e' σ' nx', q = some (.ret, ⟨e', σ', nx'⟩) ∧ e' 2 = S [] ∧ e' 3 = B false := by
  obtain ⟨hi, hx, hd'⟩ := strs_drop_head hd
  rw [rounds_rd] at hq
  have hc : ((i : Int) < (L.length : Int)) := by omega
  have hz : (0 : Int) ≤ (i : Int) := by omega
  have hhd : ((strs L).drop i).head? = some (S x) := by rw [strs_drop, hd]; rfl
  have h20 := hI.e20
  have h21 := hI.e21
  have h22 := hI.e22
  have hsL := hI.sL
  have h5 := hI.h5
  have hbe := begins_ev x
  rw [hb] at hbe
  simp only [bodyL, bodyOf, Tryz.f36, SA, loops, List.nil_append, List.append_nil, List.cons_append, List.getD_cons_zero, List.getD_cons_succ] at hq
  rcases hbad with rfl | hlen | ⟨a, rfl, he, rfl⟩
  · simp only [h20, h21, h22, hsL, hc, hz, hhd, hbe, TMA, Int.toNat_natCast, Nat.mul_one, Nat.zero_add, RR, IA, PA, RA0, RA1, RA2, RA3, RA4, RA5, RA6, RA7, RA8, RA9, RA10, Nat.reduceAdd, Nat.reduceMul, Nat.reduceEqDiff, Nat.reduceLeDiff, Nat.reduceLT, Int.reduceToNat, Int.reduceLT, Int.reduceLE, Int.reduceEq, Int.reduceNeg, Int.reduceAdd, Int.reduceSub, Int.reduceMul, reduceIte] at hq
    exact ⟨_, _, _, hq.symm, rfl, rfl⟩
  · obtain ⟨a, b, l, rfl⟩ : ∃ a b l, x = a :: b :: l := by
      match x, hlen with
      | a :: b :: l, _ => exact ⟨a, b, l, rfl⟩
    have hl1 : ((1 : Int) < ((l.length + 1 + 1 : Nat) : Int)) := by omega
    simp only [h20, h21, h22, hsL, hc, hz, hhd, hbe, hl1, TMA, Int.toNat_natCast, Nat.mul_one, Nat.zero_add, RR, IA, PA, RA0, RA1, RA2, RA3, RA4, RA5, RA6, RA7, RA8, RA9, RA10, Nat.reduceAdd, Nat.reduceMul, Nat.reduceEqDiff, Nat.reduceLeDiff, Nat.reduceLT, Int.reduceToNat, Int.reduceLT, Int.reduceLE, Int.reduceEq, Int.reduceNeg, Int.reduceAdd, Int.reduceSub, Int.reduceMul, reduceIte] at hq
    exact ⟨_, _, _, hq.symm, rfl, rfl⟩
  · have hen := isEnd_ev [a]
    rw [he] at hen
    have hl5 := fun t a b c => len_lsp h5 (t := t) (a := a) (b := b) (c := c)
    simp only [h20, h21, h22, hsL, hc, hz, hhd, hbe, hen, len_lsp h5, List.length_nil, TMA, Int.toNat_natCast, Nat.mul_one, Nat.zero_add, RR, IA, PA, RA0, RA1, RA2, RA3, RA4, RA5, RA6, RA7, RA8, RA9, RA10, Nat.reduceAdd, Nat.reduceMul, Nat.reduceEqDiff, Nat.reduceLeDiff, Nat.reduceLT, Int.reduceToNat, Int.reduceLT, Int.reduceLE, Int.reduceEq, Int.reduceNeg, Int.reduceAdd, Int.reduceSub, Int.reduceMul, reduceIte] at hq
    exact ⟨_, _, _, hq.symm, rfl, rfl⟩
end
end Go.Proofs.YtegbkihgnofkfaaGreatDoor.Ev
