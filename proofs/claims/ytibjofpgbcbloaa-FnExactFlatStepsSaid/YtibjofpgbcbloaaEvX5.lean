/-
The engine, texts Ev29 to Ev32: an evaluator of code over values without memory, and that its answers are what calls give.
-/
import Derived.Test.YtibjofpgbcbloaaEvX4
/-
The engine, part 29: functions without options; calls as equations.
-/
namespace Go.Proofs.Ytibjofpgbcbloaa.Ev
section
open Go Go.RowKit
set_option linter.unusedVariables false
set_option linter.unusedSimpArgs false
variable {I : Tab} {C : Sem1} {pf : FuncId → Nat} {m : Nat} {e : Nat → AV} {σ : Sto} {key : Nat}

theorem with_hi {L : List Nat} {n : Nat} (h : 1000000000 ≤ n) : withOpt L pf n = if n ∈ L then 1 else 0 := if_pos h
theorem look_opt {L : List Nat} (h : oStrict ∉ L) : lookAt (withOpt L pf) σ = σ := by
  have h1 : withOpt L pf oStrict = 0 := by rw [with_hi (by decide), if_neg h]
  unfold lookAt
  rw [h1]
  rfl
theorem look_nil : lookAt (withOpt [] pf) σ = σ := look_opt (by simp)
theorem reg_opt {L : List Nat} {id : Nat} (h : oReg id ∉ L) : inReg (withOpt L pf) id = withOpt L pf := by
  have h1 : withOpt L pf (oReg id) = 0 := by rw [with_hi (by unfold oReg; exact Nat.le_trans (by decide) (Nat.le_add_right 2000000000 id)), if_neg h]
  unfold inReg
  rw [h1]
  rfl
theorem reg_nil (id : Nat) : inReg (withOpt [] pf) id = withOpt [] pf := reg_opt (by simp)
theorem box_nil (t : Nat) : withOpt [] pf (oBox t) = 0 := by
  rw [with_hi (by unfold oBox; exact Nat.le_add_right 1000000000 t)]
  rfl

theorem withOpt_lo {L : List Nat} {f : Nat} (h : f < 1000000000) : withOpt L pf f = pf f := if_neg (Nat.not_le.2 h)
theorem bxK_nil (t : Nat) (ls : List AV) : bxK (withOpt [] pf) σ key t ls = if ls.all leafOk = true then some (.r key 0, upd σ key (some (.ob t ls))) else none := bxK_r (box_nil t) ls
/-! one type's boxes never change -/
theorem look_box (t : Nat) (ht : t < 1000000000) : lookAt (withOpt [oBox t] pf) σ = σ := look_opt (by
  simp only [List.mem_singleton, oStrict, oBox]
  omega)
theorem reg_box (t id : Nat) (ht : t < 1000000000) : inReg (withOpt [oBox t] pf) id = withOpt [oBox t] pf := reg_opt (by
  simp only [List.mem_singleton, oReg, oBox]
  omega)
theorem bx_box (t : Nat) (ls : List AV) : bxK (withOpt [oBox t] pf) σ key t ls = if ls.all leafOk = true then some (.p ls, σ) else none := bxK_p (by
  rw [with_hi (by unfold oBox; exact Nat.le_add_right 1000000000 t), if_pos (by simp)]) ls

/-! one type's boxes never change, one region draws strictly -/
def strictP (L : List Nat) (pf : FuncId → Nat) : FuncId → Nat := fun f => if f = oStrict then 1 else withOpt L pf f
theorem strictP_lo {L : List Nat} {f : Nat} (h : f < 1000000000) : strictP L pf f = pf f := by
  unfold strictP
  rw [if_neg (fun e => by rw [e] at h; exact absurd (show (3000000000 : Nat) < 1000000000 from h) (by decide))]
  exact withOpt_lo h
theorem look_strict (L : List Nat) : lookAt (strictP L pf) σ = fun _ => none := by
  unfold lookAt strictP
  rw [if_pos rfl, if_pos rfl]
theorem look_br (t id : Nat) (ht : t < 1000000000) (hi : id < 1000000000) : lookAt (withOpt [oBox t, oReg id] pf) σ = σ := look_opt (by
  simp only [List.mem_cons, List.not_mem_nil, or_false, oStrict, oBox, oReg]
  omega)
theorem reg_br_off (t id id' : Nat) (ht : t < 1000000000) (hne : decide (id' = id) = false) : inReg (withOpt [oBox t, oReg id] pf) id' = withOpt [oBox t, oReg id] pf := reg_opt (by
  simp only [decide_eq_false_iff_not] at hne
  simp only [List.mem_cons, List.not_mem_nil, or_false, oBox, oReg]
  omega)
theorem reg_br_on (t id : Nat) : inReg (withOpt [oBox t, oReg id] pf) id = strictP [oBox t, oReg id] pf := by
  have h1 : withOpt [oBox t, oReg id] pf (oReg id) = 1 := by rw [with_hi (by unfold oReg; exact Nat.le_trans (by decide) (Nat.le_add_right 2000000000 id)), if_pos (by simp)]
  unfold inReg
  rw [if_pos h1]
  rfl
theorem bx_br (t id : Nat) (ls : List AV) : bxK (withOpt [oBox t, oReg id] pf) σ key t ls = if ls.all leafOk = true then some (.p ls, σ) else none := bxK_p (by
  rw [with_hi (by unfold oBox; exact Nat.le_add_right 1000000000 t), if_pos (by simp)]) ls

theorem call1_eq {f : FuncId} {xs : List AV} (hp : pf f = 1) (h1 : closedL xs = true) : callOp C pf σ key f xs = (C f xs).bind (pureK σ) := by
  unfold callOp
  rw [if_pos hp, if_pos h1]
  rfl
theorem call0_eq {f : FuncId} {xs : List AV} (hp : pf f = 0) (h1 : closedL xs = true) : callOp C pf σ key f xs = (C f xs).bind (adopt σ key) := by
  unfold callOp
  rw [if_neg (by omega), if_neg (by omega), deepL_closed 8 h1, Option.bind_some]
  simp
theorem pureK_closed {x : AV} (h : closed x = true) : pureK σ x = some (x, σ) := by simp [pureK, h]
/-- A call that lends. -/
def lend2 (σ : Sto) (key : Nat) (xs : List AV) (L : List Nat) (r : AV) : Option (AV × Sto) :=
  match r with
  | .t [x, .t outs] => (back (killL (frz0 σ (needs σ xs)) L) key xs outs).bind fun (σ1, k1) => if k1 + room x ≤ key + 4 then adopt σ1 k1 x else none
  | _ => none
def lend1 (C : Sem1) (σ : Sto) (key : Nat) (f : FuncId) (xs : List AV) (q : List AV × List Nat) : Option (AV × Sto) :=
  if q.2.Nodup then (C f q.1).bind (lend2 σ key xs q.2) else none
theorem call2_eq {f : FuncId} {xs : List AV} (hp : pf f = 2) : callOp C pf σ key f xs = (deepC (pack1 (frz0 σ (needs σ xs))) xs).bind (lend1 C σ key f xs) := by
  unfold callOp
  rw [if_neg (by omega), if_pos hp]
  rfl
/-- A function run on arguments that never change. -/
theorem evF_eq {fn : Func} {c : Code} {args : List AV} {r : AV} (h1 : args.length ≤ fn.ntmps) (h2 : closedL args = true) (h : (evC I C pf m c (St.init args)).bind (resK I fn.results.toList) = some r) : evF I C pf m fn c args = some r := by
  rw [evF_run h1 h2]
  exact h
theorem bqT (b : Bool) : (b == true) = b := by cases b <;> rfl
theorem bqF (b : Bool) : (b == false) = !b := by cases b <;> rfl
theorem lt_pow {n : Nat} (h : n < 9223372036854775808) : n < 2 ^ 64 := Nat.lt_of_lt_of_le h (by decide)
theorem cast0 : ((0 : Nat) : Int) = 0 := rfl
theorem cast1 : ((1 : Nat) : Int) = 1 := rfl
theorem cast2 : ((2 : Nat) : Int) = 2 := rfl
theorem cast3 : ((3 : Nat) : Int) = 3 := rfl
/-! ### loops -/
def rdK (f : St → Option (Ex × St)) (n : Nat) : Ex × St → Option (Ex × St)
  | (.normal, s) => roundsE f n s
  | (.exit id, s) => some (.exit id, s)
  | (.ret, s) => some (.ret, s)
theorem rounds_rd (f : St → Option (Ex × St)) (n : Nat) (s : St) : roundsE f (n + 1) s = (f s).bind (rdK f n) := by
  simp only [roundsE]
  congr 1
  funext ⟨x, s1⟩
  cases x <;> rfl
theorem rdK_normal (f : St → Option (Ex × St)) (n : Nat) (s : St) : rdK f n (.normal, s) = roundsE f n s := rfl
theorem rdK_exit (f : St → Option (Ex × St)) (n id : Nat) (s : St) : rdK f n (.exit id, s) = some (.exit id, s) := rfl
theorem rdK_ret (f : St → Option (Ex × St)) (n : Nat) (s : St) : rdK f n (.ret, s) = some (.ret, s) := rfl
/-! ### code without what no evaluation looks at -/
def stripO (o : Oper) : Oper := ⟨o.dst, o.op, 0, "", #[], o.guard⟩
def stripL : List Oper → List Oper
  | [] => []
  | o :: os => stripO o :: stripL os
def strip : Code → Code
  | .region id ops d => .region id (List.toArray (stripL ops.toList)) d
  | .seq a b => .seq (strip a) (strip b)
  | .cond c a b => .cond c (strip a) (strip b)
  | .block id c => .block id (strip c)
  | .loop c => .loop (strip c)
  | c => c
theorem stripL_map : ∀ l, stripL l = l.map stripO
  | [] => rfl
  | o :: os => by simp only [stripL, List.map_cons, stripL_map os]
theorem strip_get (ops : Array Oper) (i : Nat) : (List.toArray (stripL ops.toList))[i]? = (ops[i]?).map stripO := by
  rw [stripL_map]
  simp
theorem wantedE_strip (ops : Array Oper) (e : Nat → AV) (o : Oper) : wantedE (List.toArray (stripL ops.toList)) e (stripO o) = wantedE ops e o := by
  unfold wantedE
  show (match o.guard with | none => _ | some (j, want) => _) = _
  cases o.guard with
  | none => rfl
  | some q =>
    obtain ⟨j, want⟩ := q
    simp only [strip_get]
    cases ops[j]? with
    | none => rfl
    | some x => rfl
theorem ev1_strip (ops : Array Oper) (base i : Nat) (s : St) : ev1 I C pf (List.toArray (stripL ops.toList)) base i s = ev1 I C pf ops base i s := by
  unfold ev1
  rw [strip_get]
  cases h : ops[i]? with
  | none => rfl
  | some o =>
    simp only [Option.map_some, wantedE_strip]
    rfl
theorem evL_strip (ops : Array Oper) (base : Nat) : ∀ (L : List Nat) (s : St), evL I C pf (List.toArray (stripL ops.toList)) base L s = evL I C pf ops base L s
  | [], s => rfl
  | i :: L, s => by
    simp only [evL, ev1_strip]
    congr 1
    funext s1
    exact evL_strip ops base L s1
theorem evC_strip (c : Code) : ∀ s, evC I C pf m (strip c) s = evC I C pf m c s := by
  induction c with
  | region id ops d =>
    intro s
    simp only [strip, evC, evL_strip]
    have : (List.toArray (stripL ops.toList)).size = ops.size := by simp [stripL_map]
    rw [this]
  | seq a b iha ihb =>
    intro s
    simp only [strip, evC, iha]
    congr 1
    funext ⟨x, s1⟩
    cases x <;> simp only [ihb]
  | cond c a b iha ihb =>
    intro s
    simp only [strip, evC]
    split <;> simp_all
  | block id c ih =>
    intro s
    simp only [strip, evC, ih]
  | loop c ih =>
    intro s
    simp only [strip, evC]
    have : evC I C pf m (strip c) = evC I C pf m c := funext ih
    rw [this]
  | _ => intro s; rfl
theorem strip_region (id : Nat) (os : List Oper) (d : Bool) : strip (.region id (List.toArray os) d) = .region id (List.toArray (stripL os)) d := rfl
theorem strip_seq (a b : Code) : strip (.seq a b) = .seq (strip a) (strip b) := rfl
theorem strip_cond (c : Operand) (a b : Code) : strip (.cond c a b) = .cond c (strip a) (strip b) := rfl
theorem strip_block (id : Nat) (c : Code) : strip (.block id c) = .block id (strip c) := rfl
theorem strip_loop (c : Code) : strip (.loop c) = .loop (strip c) := rfl
theorem strip_skip : strip .skip = .skip := rfl
theorem strip_exit (i : Nat) : strip (.exit i) = .exit i := rfl
theorem strip_label (i : Nat) : strip (.label i) = .label i := rfl
theorem strip_ret : strip .ret = .ret := rfl
theorem stripL_cons (d : Option Nat) (op : Op) (ty : TypeId) (ps : String) (af : Array Edge) (g : Option (Nat × Bool)) (os : List Oper) : stripL (⟨d, op, ty, ps, af, g⟩ :: os) = ⟨d, op, 0, "", #[], g⟩ :: stripL os := rfl
theorem stripL_nil : stripL [] = [] := rfl
theorem SA : (type_of% @strip_region) ∧ (type_of% @strip_seq) ∧ (type_of% @strip_cond) ∧ (type_of% @strip_block) ∧ (type_of% @strip_loop) ∧ (type_of% @strip_skip) ∧ (type_of% @strip_exit) ∧ (type_of% @strip_label) ∧ (type_of% @strip_ret) ∧ (type_of% @stripL_cons) ∧ (type_of% @stripL_nil) :=
  ⟨@strip_region, @strip_seq, @strip_cond, @strip_block, @strip_loop, @strip_skip, @strip_exit, @strip_label, @strip_ret, @stripL_cons, @stripL_nil⟩
/-- The loops' bodies of code, from the outside in. -/
def loops : Code → List Code
  | .seq a b => loops a ++ loops b
  | .cond _ a b => loops a ++ loops b
  | .block _ c => loops c
  | .loop c => c :: loops c
  | _ => []
end
end Go.Proofs.Ytibjofpgbcbloaa.Ev
/-
The engine, part 30: the rules as one list.
-/
namespace Go.Proofs.Ytibjofpgbcbloaa.Ev
section
open Go Go.RowKit
set_option linter.unusedVariables false
set_option linter.unusedSimpArgs false
section
variable {I : Tab} {C : Sem1} {pf : FuncId → Nat} {m : Nat} {e : Nat → AV} {σ : Sto} {key : Nat}
theorem normK_eq (s : St) : normK s = (.normal, s) := rfl
theorem init_eq (args : List AV) : St.init args = ⟨fun t => args.getD t (.v undef), fun _ => none, 0⟩ := rfl
theorem takeVal_eq (i : TI) (cs : List AV) : takeVal i cs = if i.agg = true then (if i.sz ≤ cs.length then some (.a (cs.take i.sz)) else none) else cs.head? := rfl
theorem agg_str (a b : Nat) (z : List Value) : TI.agg ⟨.str, a, b, z⟩ = false := rfl
theorem agg_bool (a b : Nat) (z : List Value) : TI.agg ⟨.bool, a, b, z⟩ = false := rfl
theorem agg_int (k : IntKind) (a b : Nat) (z : List Value) : TI.agg ⟨.int k, a, b, z⟩ = false := rfl
theorem agg_ptr (q a b : Nat) (z : List Value) : TI.agg ⟨.ptr q, a, b, z⟩ = false := rfl
theorem agg_sl (q a b : Nat) (z : List Value) : TI.agg ⟨.sl q, a, b, z⟩ = false := rfl
theorem agg_arr (n q a b : Nat) (z : List Value) : TI.agg ⟨.arr n q, a, b, z⟩ = true := rfl
theorem agg_st (fs : List (Nat × Nat)) (a b : Nat) (z : List Value) : TI.agg ⟨.st fs, a, b, z⟩ = true := rfl
theorem obK_eq (id T : Nat) (cs1 : List AV) : obK σ id T cs1 = (.v undef, upd σ id (some (.ob T cs1))) := rfl
theorem rowK_eq (id E sz n : Nat) (cs1 : List AV) : rowK σ id E sz n cs1 = (.v undef, upd σ id (some (.row E sz n cs1))) := rfl
theorem setRange_eq (cs : List AV) (o : Nat) (ls : List AV) : setRange cs o ls = if o + ls.length ≤ cs.length then some (cs.take o ++ ls ++ cs.drop (o + ls.length)) else none := rfl
theorem aggK_eq (cs : List AV) : aggK σ cs = (.a cs, σ) := rfl
theorem pairK_eq (x : AV) : pairK σ x = (x, σ) := rfl
theorem val_tmp (t : Nat) : val e (.tmp t) = e t := rfl
theorem val_const (x : Value) : val e (.const x) = ofC x := rfl
theorem val_func (f : FuncId) : val e (.func f) = .v (.func (.func f) #[] #[]) := rfl
theorem val_global (g : Nat) : val e (.global g) = .v (.pointer (some ⟨g, 0, none⟩)) := rfl
theorem ofC_int (k : IntKind) (n : Int) : ofC (.int k n) = .v (.int k n) := rfl
theorem ofC_str (s : ByteArray) : ofC (.string s) = .v (.string s) := rfl
theorem ofC_bool (b : Bool) : ofC (.bool b) = .v (.bool b) := rfl
theorem ofC_ptr (a : Option Addr) : ofC (.pointer a) = .v (.pointer a) := rfl
theorem ofC_nil : ofC (.slice none 0 0) = .s true 0 [] := rfl
theorem range_eq (n : Nat) : List.range n = List.range.loop n [] := rfl
theorem loop_zero (l : List Nat) : List.range.loop 0 l = l := rfl
theorem loop_succ (n : Nat) (l : List Nat) : List.range.loop (n + 1) l = List.range.loop n (n :: l) := rfl
theorem wanted_none (ops : Array Oper) (d : Option Nat) (op : Op) (ty : TypeId) (ps : String) (af : Array Edge) : wantedE ops e ⟨d, op, ty, ps, af, none⟩ = some true := rfl
def wK (want : Bool) : Option AV → Option Bool
  | some (.v (.bool b)) => some (b == want)
  | some (.v (.tuple _)) => some false
  | _ => none
theorem wK_undef (want : Bool) : wK want (some (.v undef)) = some false := rfl
theorem wanted_some (ops : Array Oper) (d : Option Nat) (op : Op) (ty : TypeId) (ps : String) (af : Array Edge) (j : Nat) (want : Bool) : wantedE ops e ⟨d, op, ty, ps, af, some (j, want)⟩ = wK want (((ops[j]?).bind fun o => o.dst).map e) := by
  simp only [wantedE, wK]
  split <;> simp_all
theorem wK_bool (want b : Bool) : wK want (some (.v (.bool b))) = some (b == want) := rfl
theorem closedL_nil : closedL [] = true := rfl
theorem closedL_cons (x : AV) (xs : List AV) : closedL (x :: xs) = (closed x && closedL xs) := rfl
theorem closed_v (x : Value) : closed (.v x) = true := rfl
theorem closed_p (cs : List AV) : closed (.p cs) = closedL cs := rfl
theorem closed_s (ex : Bool) (n : Nat) (cs : List AV) : closed (.s ex n cs) = closedL cs := rfl
theorem closed_a (cs : List AV) : closed (.a cs) = closedL cs := rfl
theorem closed_t (cs : List AV) : closed (.t cs) = closedL cs := rfl
theorem cells_ob (T : Nat) (cs : List AV) : Slot.cells (.ob T cs) = cs := rfl
theorem cells_row (E sz n : Nat) (cs : List AV) : Slot.cells (.row E sz n cs) = cs := rfl
theorem cells_fz (cs : List AV) : Slot.cells (.fz cs) = cs := rfl
def b1K (σ : Sto) (a : Nat) : Option (List AV) → Option (AV × Sto)
  | some ls => if ls.length = a ∧ a ≤ 16777216 then some (.s true 1 ls, σ) else none
  | none => none
def b2K (σ : Sto) (a : Nat) : Option (List AV) → Option (List AV) → Option (AV × Sto)
  | some ls, some ms => if ls.length = a ∧ ms.length = a ∧ a ≤ 8388608 then some (.s true 2 (ls ++ ms), σ) else none
  | _, _ => none
theorem b2K_some (a : Nat) (ls ms : List AV) : b2K σ a (some ls) (some ms) = if ls.length = a ∧ ms.length = a ∧ a ≤ 8388608 then some (.s true 2 (ls ++ ms), σ) else none := rfl
/-- A slice of one or two values. -/
theorem bsK_one1 (k : TK) (a b : Nat) (z : List Value) (x : AV) : bsK σ 1 [(0, x)] (some ⟨k, a, b, z⟩) = b1K σ a (leaves x) := by
  cases h : leaves x with
  | none => simp [b1K, bsK_some, fillP_cons, h, fillK, plK]
  | some ls =>
    show _ = if ls.length = a ∧ a ≤ 16777216 then some (AV.s true 1 ls, σ) else none
    by_cases h2 : ls.length = a ∧ a ≤ 16777216
    · rw [bsK_one _ _ h h2.1 h2.2, if_pos h2]
    · rw [if_neg h2, bsK_some]
      simp only [Nat.one_mul]
      split
      · rw [fillP_cons, h, plK_eq, fillK_some, if_neg (fun e => h2 ⟨e, by assumption⟩)]
        rfl
      · rfl
theorem b1K_some (a : Nat) (ls : List AV) : b1K σ a (some ls) = if ls.length = a ∧ a ≤ 16777216 then some (.s true 1 ls, σ) else none := rfl
theorem bsK_two1 (k : TK) (a b : Nat) (z : List Value) (x y : AV) : bsK σ 2 [(0, x), (1, y)] (some ⟨k, a, b, z⟩) = if a ≤ 8388608 then b2K σ a (leaves x) (leaves y) else bsK σ 2 [(0, x), (1, y)] (some ⟨k, a, b, z⟩) := by
  split
  · rename_i h5
    cases h1 : leaves x with
    | none =>
      simp only [b2K, bsK_some, fillP_cons, h1, plK_eq, fillK]
      split <;> rfl
    | some ls =>
      cases h2 : leaves y with
      | none =>
        simp only [b2K, bsK_some]
        split
        · rw [fillP_cons, h1, plK_eq, fillK_some]
          split
          · cases setRange (zrow (2 * a) a (zeros ⟨k, a, b, z⟩)) (0 * a) ls with
            | none => rfl
            | some q =>
              simp only [Option.bind_some]
              rw [fillP_cons, h2, plK_eq]
              rfl
          · rfl
        · rfl
      | some ms =>
        by_cases h : ls.length = a ∧ ms.length = a
        · rw [bsK_two _ _ _ h1 h.1 h2 h.2 h5, b2K_some, if_pos ⟨h.1, h.2, h5⟩]
        · rw [b2K_some, if_neg (fun q => h ⟨q.1, q.2.1⟩), bsK_some]
          split
          · rw [fillP_cons, h1, plK_eq, fillK_some]
            split
            · rename_i hl
              cases setRange (zrow (2 * a) a (zeros ⟨k, a, b, z⟩)) (0 * a) ls with
              | none => rfl
              | some q =>
                simp only [Option.bind_some]
                rw [fillP_cons, h2, plK_eq, fillK_some, if_neg (fun q => h ⟨hl, q⟩)]
                rfl
            · rfl
          · rfl
  · rfl
theorem bsK_two2 (k : TK) (a b : Nat) (z : List Value) (x y : AV) (h : a ≤ 8388608) : bsK σ 2 [(0, x), (1, y)] (some ⟨k, a, b, z⟩) = b2K σ a (leaves x) (leaves y) := by
  rw [bsK_two1, if_pos h]
end

theorem RA0 : (((((type_of% @evC_seq) ∧ ((type_of% @evC_block) ∧ (type_of% @evC_cond))) ∧ (((type_of% @evC_region) ∧ (type_of% @evC_exit)) ∧ ((type_of% @evC_ret) ∧ (type_of% @evC_skip)))) ∧ ((((type_of% @evC_label) ∧ (type_of% @evC_loop)) ∧ ((type_of% @seqK_normal) ∧ (type_of% @seqK_exit))) ∧ (((type_of% @seqK_ret) ∧ (type_of% @blockK_normal)) ∧ ((type_of% @blockK_exit) ∧ (type_of% @blockK_ret))))) ∧ ((((type_of% @condK_bool) ∧ ((type_of% @normK_eq) ∧ (type_of% @evL_nil))) ∧ (((type_of% @evL_cons) ∧ (type_of% @ev1_opK)) ∧ ((type_of% @opK_some) ∧ (type_of% @ev1K_true)))) ∧ ((((type_of% @ev1K_false) ∧ (type_of% @putK_some)) ∧ ((type_of% @putK_none) ∧ (type_of% @put_some))) ∧ (((type_of% @put_none) ∧ (type_of% @evOp_move)) ∧ ((type_of% @evOp_assign) ∧ (type_of% @evOp_pick)))))) := ⟨⟨⟨⟨@evC_seq, ⟨@evC_block, @evC_cond⟩⟩, ⟨⟨@evC_region, @evC_exit⟩, ⟨@evC_ret, @evC_skip⟩⟩⟩, ⟨⟨⟨@evC_label, @evC_loop⟩, ⟨@seqK_normal, @seqK_exit⟩⟩, ⟨⟨@seqK_ret, @blockK_normal⟩, ⟨@blockK_exit, @blockK_ret⟩⟩⟩⟩, ⟨⟨⟨@condK_bool, ⟨@normK_eq, @evL_nil⟩⟩, ⟨⟨@evL_cons, @ev1_opK⟩, ⟨@opK_some, @ev1K_true⟩⟩⟩, ⟨⟨⟨@ev1K_false, @putK_some⟩, ⟨@putK_none, @put_some⟩⟩, ⟨⟨@put_none, @evOp_move⟩, ⟨@evOp_assign, @evOp_pick⟩⟩⟩⟩⟩
theorem RA1 : (((((type_of% @pickK_bool) ∧ ((type_of% @evOp_binOp) ∧ (type_of% @binK_some))) ∧ (((type_of% @bin_str) ∧ (type_of% @bin_int)) ∧ ((type_of% @bin_bool) ∧ (type_of% @bin_nn)))) ∧ ((((type_of% @bin_pn) ∧ (type_of% @bin_rn)) ∧ ((type_of% @eqB_eql) ∧ (type_of% @eqB_neq))) ∧ (((type_of% @str_eql) ∧ (type_of% @str_neq)) ∧ ((type_of% @str_lss) ∧ (type_of% @str_leq))))) ∧ ((((type_of% @str_gtr) ∧ ((type_of% @str_geq) ∧ (type_of% @wrap64))) ∧ (((type_of% @wrap8) ∧ (type_of% @int_add)) ∧ ((type_of% @int_sub) ∧ (type_of% @int_mul)))) ∧ ((((type_of% @int_quo) ∧ (type_of% @int_rem)) ∧ ((type_of% @int_eql) ∧ (type_of% @int_neq))) ∧ (((type_of% @int_lss) ∧ (type_of% @int_leq)) ∧ ((type_of% @int_gtr) ∧ (type_of% @int_geq)))))) := ⟨⟨⟨⟨@pickK_bool, ⟨@evOp_binOp, @binK_some⟩⟩, ⟨⟨@bin_str, @bin_int⟩, ⟨@bin_bool, @bin_nn⟩⟩⟩, ⟨⟨⟨@bin_pn, @bin_rn⟩, ⟨@eqB_eql, @eqB_neq⟩⟩, ⟨⟨@str_eql, @str_neq⟩, ⟨@str_lss, @str_leq⟩⟩⟩⟩, ⟨⟨⟨@str_gtr, ⟨@str_geq, @wrap64⟩⟩, ⟨⟨@wrap8, @int_add⟩, ⟨@int_sub, @int_mul⟩⟩⟩, ⟨⟨⟨@int_quo, @int_rem⟩, ⟨@int_eql, @int_neq⟩⟩, ⟨⟨@int_lss, @int_leq⟩, ⟨@int_gtr, @int_geq⟩⟩⟩⟩⟩
theorem RA2 : (((((type_of% @evOp_unOp) ∧ ((type_of% @unK_not) ∧ (type_of% @unK_neg))) ∧ (((type_of% @evOp_convert) ∧ (type_of% @convK_some)) ∧ ((type_of% @conv_int) ∧ (type_of% @conv_str)))) ∧ ((((type_of% @conv_bytes) ∧ (type_of% @bytesK_some)) ∧ ((type_of% @bytesOf_one) ∧ (type_of% @evOp_extract))) ∧ (((type_of% @extK_t) ∧ (type_of% @evOp_fa)) ∧ ((type_of% @faK_st) ∧ (type_of% @evOp_field))))) ∧ ((((type_of% @fieldK_st) ∧ ((type_of% @evOp_ld) ∧ (type_of% @ldK_some))) ∧ (((type_of% @tvK_eq) ∧ (type_of% @cells_r)) ∧ ((type_of% @cellsAt_p) ∧ (type_of% @takeVal_eq)))) ∧ ((((type_of% @agg_str) ∧ (type_of% @agg_bool)) ∧ ((type_of% @agg_int) ∧ (type_of% @agg_ptr))) ∧ (((type_of% @agg_sl) ∧ (type_of% @agg_arr)) ∧ ((type_of% @agg_st) ∧ (type_of% @evOp_store)))))) := ⟨⟨⟨⟨@evOp_unOp, ⟨@unK_not, @unK_neg⟩⟩, ⟨⟨@evOp_convert, @convK_some⟩, ⟨@conv_int, @conv_str⟩⟩⟩, ⟨⟨⟨@conv_bytes, @bytesK_some⟩, ⟨@bytesOf_one, @evOp_extract⟩⟩, ⟨⟨@extK_t, @evOp_fa⟩, ⟨@faK_st, @evOp_field⟩⟩⟩⟩, ⟨⟨⟨@fieldK_st, ⟨@evOp_ld, @ldK_some⟩⟩, ⟨⟨@tvK_eq, @cells_r⟩, ⟨@cellsAt_p, @takeVal_eq⟩⟩⟩, ⟨⟨⟨@agg_str, @agg_bool⟩, ⟨@agg_int, @agg_ptr⟩⟩, ⟨⟨@agg_sl, @agg_arr⟩, ⟨@agg_st, @evOp_store⟩⟩⟩⟩⟩
theorem RA3 : (((((type_of% @storeK_some) ∧ ((type_of% @leaves_int) ∧ (type_of% @leaves_bool))) ∧ (((type_of% @leaves_str) ∧ (type_of% @leaves_ptr)) ∧ ((type_of% @leaves_a) ∧ (type_of% @leaves_p)))) ∧ ((((type_of% @leaves_s) ∧ (type_of% @leaves_r)) ∧ ((type_of% @leaves_w) ∧ (type_of% @leafOk_int))) ∧ (((type_of% @leafOk_bool) ∧ (type_of% @leafOk_str)) ∧ ((type_of% @leafOk_ptr) ∧ (type_of% @leafOk_p))))) ∧ ((((type_of% @leafOk_s) ∧ ((type_of% @leafOk_r) ∧ (type_of% @leafOk_w))) ∧ (((type_of% @stK_r) ∧ (type_of% @slotK_ob)) ∧ ((type_of% @slotK_row) ∧ (type_of% @obK_eq)))) ∧ ((((type_of% @rowK_eq) ∧ (type_of% @upd_eq)) ∧ ((type_of% @setRange_eq) ∧ (type_of% @evOp_ia))) ∧ (((type_of% @iaK_s) ∧ (type_of% @iaK_w)) ∧ ((type_of% @iaK_arr) ∧ (type_of% @evOp_ix)))))) := ⟨⟨⟨⟨@storeK_some, ⟨@leaves_int, @leaves_bool⟩⟩, ⟨⟨@leaves_str, @leaves_ptr⟩, ⟨@leaves_a, @leaves_p⟩⟩⟩, ⟨⟨⟨@leaves_s, @leaves_r⟩, ⟨@leaves_w, @leafOk_int⟩⟩, ⟨⟨@leafOk_bool, @leafOk_str⟩, ⟨@leafOk_ptr, @leafOk_p⟩⟩⟩⟩, ⟨⟨⟨@leafOk_s, ⟨@leafOk_r, @leafOk_w⟩⟩, ⟨⟨@stK_r, @slotK_ob⟩, ⟨@slotK_row, @obK_eq⟩⟩⟩, ⟨⟨⟨@rowK_eq, @upd_eq⟩, ⟨@setRange_eq, @evOp_ia⟩⟩, ⟨⟨@iaK_s, @iaK_w⟩, ⟨@iaK_arr, @evOp_ix⟩⟩⟩⟩⟩
theorem RA4 : (((((type_of% @ixK_str) ∧ ((type_of% @ixK_arr) ∧ (type_of% @evOp_sl))) ∧ (((type_of% @slK_str) ∧ (type_of% @slK_s)) ∧ ((type_of% @slK_w) ∧ (type_of% @cut_str_lo)))) ∧ ((((type_of% @cut_str_hi) ∧ (type_of% @cut_str_both)) ∧ ((type_of% @evOp_build) ∧ (type_of% @buildK_st))) ∧ (((type_of% @placeK_eq) ∧ (type_of% @fillP_nil)) ∧ ((type_of% @fillP_cons) ∧ (type_of% @fillK_some))))) ∧ ((((type_of% @evOp_bs) ∧ ((type_of% @bsT_sl) ∧ (type_of% @bsK_nil))) ∧ (((type_of% @bsK_one1) ∧ (type_of% @bsK_two2)) ∧ ((type_of% @aggK_eq) ∧ (type_of% @evOp_box)))) ∧ ((((type_of% @boxK_some) ∧ (type_of% @evOp_alloc)) ∧ ((type_of% @allocK_some) ∧ (type_of% @evOp_len))) ∧ (((type_of% @lenK_str) ∧ (type_of% @lenK_s)) ∧ ((type_of% @lenK_w) ∧ (type_of% @evOp_max)))))) := ⟨⟨⟨⟨@ixK_str, ⟨@ixK_arr, @evOp_sl⟩⟩, ⟨⟨@slK_str, @slK_s⟩, ⟨@slK_w, @cut_str_lo⟩⟩⟩, ⟨⟨⟨@cut_str_hi, @cut_str_both⟩, ⟨@evOp_build, @buildK_st⟩⟩, ⟨⟨@placeK_eq, @fillP_nil⟩, ⟨@fillP_cons, @fillK_some⟩⟩⟩⟩, ⟨⟨⟨@evOp_bs, ⟨@bsT_sl, @bsK_nil⟩⟩, ⟨⟨@bsK_one1, @bsK_two2⟩, ⟨@aggK_eq, @evOp_box⟩⟩⟩, ⟨⟨⟨@boxK_some, @evOp_alloc⟩, ⟨@allocK_some, @evOp_len⟩⟩, ⟨⟨@lenK_str, @lenK_s⟩, ⟨@lenK_w, @evOp_max⟩⟩⟩⟩⟩
theorem RA5 : (((((type_of% @evOp_min) ∧ ((type_of% @mx2_int) ∧ (type_of% @evOp_call))) ∧ (((type_of% @call1_eq) ∧ (type_of% @call0_eq)) ∧ ((type_of% @pureK_v) ∧ (type_of% @adopt_v)))) ∧ ((((type_of% @addOff_p) ∧ (type_of% @addOff_r)) ∧ ((type_of% @evOp_nilCheck) ∧ (type_of% @nilK_p))) ∧ (((type_of% @nilK_r) ∧ (type_of% @pairK_eq)) ∧ ((type_of% @val_tmp) ∧ (type_of% @val_const))))) ∧ ((((type_of% @val_func) ∧ ((type_of% @val_global) ∧ (type_of% @ofC_int))) ∧ (((type_of% @ofC_str) ∧ (type_of% @ofC_bool)) ∧ ((type_of% @ofC_ptr) ∧ (type_of% @ofC_nil)))) ∧ ((((type_of% @reg_nil) ∧ (type_of% @look_nil)) ∧ ((type_of% @withOpt_lo) ∧ (type_of% @bxK_nil))) ∧ (((type_of% @look_box) ∧ (type_of% @reg_box)) ∧ ((type_of% @bx_box) ∧ (type_of% @strictP_lo)))))) := ⟨⟨⟨⟨@evOp_min, ⟨@mx2_int, @evOp_call⟩⟩, ⟨⟨@call1_eq, @call0_eq⟩, ⟨@pureK_v, @adopt_v⟩⟩⟩, ⟨⟨⟨@addOff_p, @addOff_r⟩, ⟨@evOp_nilCheck, @nilK_p⟩⟩, ⟨⟨@nilK_r, @pairK_eq⟩, ⟨@val_tmp, @val_const⟩⟩⟩⟩, ⟨⟨⟨@val_func, ⟨@val_global, @ofC_int⟩⟩, ⟨⟨@ofC_str, @ofC_bool⟩, ⟨@ofC_ptr, @ofC_nil⟩⟩⟩, ⟨⟨⟨@reg_nil, @look_nil⟩, ⟨@withOpt_lo, @bxK_nil⟩⟩, ⟨⟨@look_box, @reg_box⟩, ⟨@bx_box, @strictP_lo⟩⟩⟩⟩⟩
theorem RA6 : (((((type_of% @look_strict) ∧ ((type_of% @look_br) ∧ (type_of% @reg_br_off))) ∧ (((type_of% @reg_br_on) ∧ (type_of% @bx_br)) ∧ ((type_of% @range_eq) ∧ (type_of% @loop_zero)))) ∧ ((((type_of% @loop_succ) ∧ (type_of% @wanted_none)) ∧ ((type_of% @wanted_some) ∧ (type_of% @wK_bool))) ∧ (((type_of% @wK_undef) ∧ (type_of% @bqT)) ∧ ((type_of% @bqF) ∧ (type_of% @cast0))))) ∧ ((((type_of% @cast1) ∧ ((type_of% @cast2) ∧ (type_of% @cast3))) ∧ (((type_of% @resK_ret) ∧ (type_of% @resK_normal)) ∧ ((type_of% @evRes_nil) ∧ (type_of% @evRes_tmp)))) ∧ ((((type_of% @evRes_cell) ∧ (type_of% @giveAll_v)) ∧ ((type_of% @closedL_nil) ∧ (type_of% @closedL_cons))) ∧ (((type_of% @closed_v) ∧ (type_of% @closed_p)) ∧ ((type_of% @closed_s) ∧ (type_of% @closed_a)))))) := ⟨⟨⟨⟨@look_strict, ⟨@look_br, @reg_br_off⟩⟩, ⟨⟨@reg_br_on, @bx_br⟩, ⟨@range_eq, @loop_zero⟩⟩⟩, ⟨⟨⟨@loop_succ, @wanted_none⟩, ⟨@wanted_some, @wK_bool⟩⟩, ⟨⟨@wK_undef, @bqT⟩, ⟨@bqF, @cast0⟩⟩⟩⟩, ⟨⟨⟨@cast1, ⟨@cast2, @cast3⟩⟩, ⟨⟨@resK_ret, @resK_normal⟩, ⟨@evRes_nil, @evRes_tmp⟩⟩⟩, ⟨⟨⟨@evRes_cell, @giveAll_v⟩, ⟨@closedL_nil, @closedL_cons⟩⟩, ⟨⟨@closed_v, @closed_p⟩, ⟨@closed_s, @closed_a⟩⟩⟩⟩⟩
theorem RA7 : ((((type_of% @closed_t) ∧ (type_of% @rdK_normal)) ∧ ((type_of% @rdK_exit) ∧ ((type_of% @rdK_ret) ∧ (type_of% @cells_ob)))) ∧ (((type_of% @cells_row) ∧ ((type_of% @cells_fz) ∧ (type_of% @size_mk))) ∧ ((type_of% @init_eq) ∧ ((type_of% @b1K_some) ∧ (type_of% @b2K_some))))) := ⟨⟨⟨@closed_t, @rdK_normal⟩, ⟨@rdK_exit, ⟨@rdK_ret, @cells_ob⟩⟩⟩, ⟨⟨@cells_row, ⟨@cells_fz, @size_mk⟩⟩, ⟨@init_eq, ⟨@b1K_some, @b2K_some⟩⟩⟩⟩
theorem RA8 : (((((type_of% @List.size_toArray.{0}) ∧ ((type_of% @List.length_cons.{0}) ∧ (type_of% @List.length_nil.{0}))) ∧ (((type_of% @List.getElem?_toArray.{0}) ∧ (type_of% @List.getElem?_cons_zero.{0})) ∧ ((type_of% @List.getElem?_cons_succ.{0}) ∧ (type_of% @List.map_cons.{0, 0})))) ∧ ((((type_of% @List.map_nil.{0, 0}) ∧ (type_of% @List.drop_succ_cons.{0})) ∧ ((type_of% @List.drop_zero.{0}) ∧ (type_of% @List.take_succ_cons.{0}))) ∧ (((type_of% @List.take_zero.{0}) ∧ (type_of% @List.head?_cons.{0})) ∧ ((type_of% @List.all_cons.{0}) ∧ (type_of% @List.all_nil.{0}))))) ∧ ((((type_of% @List.nil_append.{0}) ∧ ((type_of% @List.cons_append.{0}) ∧ (type_of% @Option.bind_some.{0, 0}))) ∧ (((type_of% @Option.map_some.{0, 0}) ∧ (type_of% @Option.bind_none.{0, 0})) ∧ ((type_of% @Option.map_none.{0, 0}) ∧ (type_of% @List.getD_cons_zero.{0})))) ∧ ((((type_of% @List.getD_cons_succ.{0}) ∧ (type_of% @List.getD_nil.{0})) ∧ ((type_of% @Nat.zero_add) ∧ (type_of% @Nat.add_zero))) ∧ (((type_of% @Nat.mul_one) ∧ (type_of% @Nat.zero_mul)) ∧ ((type_of% @Bool.and_true) ∧ (type_of% @Bool.true_and)))))) := ⟨⟨⟨⟨@List.size_toArray.{0}, ⟨@List.length_cons.{0}, @List.length_nil.{0}⟩⟩, ⟨⟨@List.getElem?_toArray.{0}, @List.getElem?_cons_zero.{0}⟩, ⟨@List.getElem?_cons_succ.{0}, @List.map_cons.{0, 0}⟩⟩⟩, ⟨⟨⟨@List.map_nil.{0, 0}, @List.drop_succ_cons.{0}⟩, ⟨@List.drop_zero.{0}, @List.take_succ_cons.{0}⟩⟩, ⟨⟨@List.take_zero.{0}, @List.head?_cons.{0}⟩, ⟨@List.all_cons.{0}, @List.all_nil.{0}⟩⟩⟩⟩, ⟨⟨⟨@List.nil_append.{0}, ⟨@List.cons_append.{0}, @Option.bind_some.{0, 0}⟩⟩, ⟨⟨@Option.map_some.{0, 0}, @Option.bind_none.{0, 0}⟩, ⟨@Option.map_none.{0, 0}, @List.getD_cons_zero.{0}⟩⟩⟩, ⟨⟨⟨@List.getD_cons_succ.{0}, @List.getD_nil.{0}⟩, ⟨@Nat.zero_add, @Nat.add_zero⟩⟩, ⟨⟨@Nat.mul_one, @Nat.zero_mul⟩, ⟨@Bool.and_true, @Bool.true_and⟩⟩⟩⟩⟩
theorem RA9 : (((((type_of% @Bool.and_self) ∧ ((type_of% @Bool.not_true) ∧ (type_of% @Bool.not_false))) ∧ (((type_of% @beq_self_eq_true.{0}) ∧ (type_of% @and_self)) ∧ ((type_of% @and_true) ∧ (type_of% @true_and)))) ∧ (((type_of% @if_true.{1}) ∧ ((type_of% @if_false.{1}) ∧ (type_of% @Bool.false_eq_true))) ∧ (((type_of% @ite_bind) ∧ (type_of% @ite_map)) ∧ ((type_of% @decide_true) ∧ (type_of% @decide_false))))) ∧ ((((type_of% @eq_self.{1}) ∧ ((type_of% @ge_iff_le.{0}) ∧ (type_of% @gt_iff_lt.{0}))) ∧ (((type_of% @Int.toNat_natCast) ∧ (type_of% @ite_self.{1})) ∧ ((type_of% @Bool.true_or) ∧ (type_of% @Bool.false_or)))) ∧ (((type_of% @Bool.or_true) ∧ ((type_of% @Bool.or_false) ∧ (type_of% @Bool.false_and))) ∧ (((type_of% @Bool.and_false) ∧ (type_of% @false_and)) ∧ ((type_of% @and_false) ∧ (type_of% @List.append_nil.{0})))))) := ⟨⟨⟨⟨@Bool.and_self, ⟨@Bool.not_true, @Bool.not_false⟩⟩, ⟨⟨@beq_self_eq_true.{0}, @and_self⟩, ⟨@and_true, @true_and⟩⟩⟩, ⟨⟨@if_true.{1}, ⟨@if_false.{1}, @Bool.false_eq_true⟩⟩, ⟨⟨@ite_bind, @ite_map⟩, ⟨@decide_true, @decide_false⟩⟩⟩⟩, ⟨⟨⟨@eq_self.{1}, ⟨@ge_iff_le.{0}, @gt_iff_lt.{0}⟩⟩, ⟨⟨@Int.toNat_natCast, @ite_self.{1}⟩, ⟨@Bool.true_or, @Bool.false_or⟩⟩⟩, ⟨⟨@Bool.or_true, ⟨@Bool.or_false, @Bool.false_and⟩⟩, ⟨⟨@Bool.and_false, @false_and⟩, ⟨@and_false, @List.append_nil.{0}⟩⟩⟩⟩⟩
end
end Go.Proofs.Ytibjofpgbcbloaa.Ev
/-
The engine, part 31: rules for functions that change one object that they are lent.
-/
namespace Go.Proofs.Ytibjofpgbcbloaa.Ev
section
open Go Go.RowKit
set_option linter.unusedVariables false
set_option linter.unusedSimpArgs false
variable {I : Tab} {C : Sem1} {pf : FuncId → Nat} {m : Nat} {e : Nat → AV} {σ : Sto} {key : Nat}

/-- A value that goes along unchanged. -/
def goes : AV → Bool
  | .t _ => false
  | x => closed x
theorem goes_closed {x : AV} (h : goes x = true) : closed x = true := by cases x <;> simp_all [goes]
theorem goes_v (x : Value) : goes (.v x) = true := rfl
theorem pack_goes {x : AV} (h : goes x = true) : pack1 σ x = some (x, []) := by
  cases x
  case t => simp [goes] at h
  case r => simp [goes, closed] at h
  case w => simp [goes, closed] at h
  case o => simp [goes, closed] at h
  all_goals
    simp only [pack1, clear, deep_closed 8 _ (goes_closed h), Option.bind_some]
    rfl
theorem packL_goes : ∀ {xs : List AV}, xs.all goes = true → deepC (pack1 σ) xs = some (xs, [])
  | [], _ => rfl
  | x :: xs, h => by
    simp only [List.all_cons, Bool.and_eq_true] at h
    simp only [deepC, pack_goes h.1, Option.bind_some, packL_goes h.2, Option.map_some, List.append_nil]
theorem leaf_closed {x : AV} (h : closed x = true) : leafP σ x = some (x, []) := by
  cases x
  case r => simp [closed] at h
  case w => simp [closed] at h
  case o => simp [closed] at h
  all_goals
    simp only [leafP, clear, deep_closed 8 _ h, Option.bind_some]
    rfl
theorem leafL_closed : ∀ {xs : List AV}, closedL xs = true → deepC (leafP σ) xs = some (xs, [])
  | [], _ => rfl
  | x :: xs, h => by
    simp only [closedL, Bool.and_eq_true] at h
    simp only [deepC, leaf_closed h.1, Option.bind_some, leafL_closed h.2, Option.map_some, List.append_nil]
theorem rowsIn_closed : ∀ {xs : List AV} {σ : Sto} {k : Nat}, closedL xs = true → rowsIn σ k xs = (xs, σ, k)
  | [], _, _, _ => rfl
  | x :: xs, σ, k, h => by
    simp only [closedL, Bool.and_eq_true] at h
    cases x
    case o => simp [closed] at h
    all_goals simp only [rowsIn, rowsIn_closed h.2]
theorem needs_goes : ∀ {xs : List AV}, xs.all goes = true → needs σ xs = []
  | [], _ => rfl
  | x :: xs, h => by
    simp only [List.all_cons, Bool.and_eq_true] at h
    simp only [needs, needs_goes h.2, List.append_nil]
    cases x
    case w => simp [goes, closed] at h
    all_goals rfl
theorem back_goes : ∀ {xs : List AV} {σ : Sto} {k : Nat}, xs.all goes = true → back σ k xs xs = some (σ, k)
  | [], _, _, _ => rfl
  | x :: xs, σ, k, h => by
    simp only [List.all_cons, Bool.and_eq_true] at h
    cases x
    case r => simp [goes, closed] at h
    case w => simp [goes, closed] at h
    case t => simp [goes] at h
    all_goals simp only [back, back_goes h.2]
theorem inits_goes : ∀ {xs : List AV} {σ : Sto} {k : Nat}, xs.all goes = true → inits σ k xs = (xs, σ, k)
  | [], _, _, _ => rfl
  | x :: xs, σ, k, h => by
    simp only [List.all_cons, Bool.and_eq_true] at h
    cases x
    case t => simp [goes] at h
    all_goals simp only [inits, inits_goes h.2]

/-- An object as it is lent. -/
abbrev lent (T : Nat) (cs : List AV) : AV := .t (.v (.bool true) :: ni T :: cs)

/-- What comes back of a call that was lent object id. -/
def lentB (σ : Sto) (key id : Nat) (xs : List AV) : AV → Option (AV × Sto)
  | .t [x, .t outs] => match outs with
    | .t (.v (.bool true) :: .v (.int .i64 T) :: cs) :: ys => if closedL cs = true ∧ ys.length = xs.length ∧ room x ≤ 4 then (back (upd σ id (some (.ob T.toNat cs))) key xs ys).bind fun (σ1, k1) => if k1 + room x ≤ key + 4 then adopt σ1 k1 x else none else none
    | _ => none
  | _ => none
theorem call_ob {f : FuncId} {id T : Nat} {cs xs : List AV} (hp : pf f = 2) (hσ : σ id = some (.ob T cs)) (hc : closedL cs = true) (hx : xs.all goes = true) {x : AV} {cs' : List AV} {T' : Nat} (hr : C f (lent T cs :: xs) = some (.t [x, .t (lent T' cs' :: xs)])) (hc' : closedL cs' = true) :
    callOp C pf σ key f (.r id 0 :: xs) = if key + room x ≤ key + 4 then adopt (upd σ id (some (.ob T' cs'))) key x else none := by
  rw [call2_eq hp]
  have h1 : needs σ (.r id 0 :: xs) = [] := by
    simp only [needs, needs_goes hx, List.append_nil]
    rfl
  have h2 : deepC (pack1 σ) (.r id 0 :: xs) = some (lent T cs :: xs, [id]) := by
    simp only [deepC, pack1, hσ, leafL_closed hc, Option.map_some, Option.bind_some, packL_goes hx, List.append_nil]
  rw [h1]
  simp only [frz0, h2, Option.bind_some, lend1]
  rw [if_pos (by simp)]
  rw [hr]
  have h3 : upd (killL σ [id]) id (some (.ob T' cs')) = upd σ id (some (.ob T' cs')) := by
    funext i
    unfold upd killL
    by_cases e : i = id <;> simp [e]
  simp only [Option.bind_some, lend2, h1, frz0, back, lent, ni, rowsIn_closed hc', Int.toNat_natCast, h3, back_goes hx]
theorem call_ob_v {f : FuncId} {id T : Nat} {cs xs : List AV} (hp : pf f = 2) (hσ : σ id = some (.ob T cs)) (hc : closedL cs = true) (hx : xs.all goes = true) {x : AV} {cs' : List AV} {T' : Nat} (hr : C f (lent T cs :: xs) = some (.t [x, .t (lent T' cs' :: xs)])) (hc' : closedL cs' = true) (h1 : closed x = true) (h2 : room x ≤ 4) :
    callOp C pf σ key f (.r id 0 :: xs) = some (x, upd σ id (some (.ob T' cs'))) := by
  rw [call_ob hp hσ hc hx hr hc', if_pos (by omega)]
  cases x
  case t ys =>
    simp only [adopt]
    rw [if_pos (show ys.length ≤ 4 from h2)]
    have : ∀ (ys : List AV) (σ : Sto) (k : Nat), closedL ys = true → adoptL σ k ys = some (ys, σ) := by
      intro ys
      induction ys with
      | nil => intros; rfl
      | cons y ys ih =>
        intro σ k h
        simp only [closedL, Bool.and_eq_true] at h
        simp only [adoptL, adopt1_closed h.1, Option.bind_some, ih _ _ h.2, Option.map_some]
    rw [this _ _ _ (by simpa only [closed] using h1)]
    rfl
  case o => simp [closed] at h1
  all_goals simp only [adopt, adopt1_closed h1]

/-- What a function gives that was lent object 0. -/
def outK (I : Tab) (rs : List ResultVar) (vs : List AV) : Ex × St → Option AV
  | (.exit _, _) => none
  | (_, s) => (evRes I s rs).bind fun xs => (giveL s.σ xs).bind fun (ys, os, is) => (deepC (packO s.σ) vs).bind fun (outs, L) =>
        if (os ++ L).Nodup ∧ ∀ i ∈ os ++ L, i ∉ is then (match ys with | [.t _] => none | [y] => some (.t [y, .t outs]) | ys => some (.t [.t ys, .t outs])) else none
theorem evM_run {fn : Func} {c : Code} {T : Nat} {cs xs : List AV} (hN : xs.length + 1 ≤ fn.ntmps) (hc : closedL cs = true) (hx : xs.all goes = true) :
    evM I C pf m fn c (lent T cs :: xs) = (evC I C pf m c ⟨fun t => (.r 0 0 :: xs).getD t (.v undef), upd (fun _ => none) 0 (some (.ob T cs)), 1⟩).bind (outK I fn.results.toList (.r 0 0 :: xs)) := by
  unfold evM
  simp only [lent, ni, inits, rowsIn_closed hc, inits_goes hx, Int.toNat_natCast]
  rw [if_pos ⟨by simpa using hN, by simp⟩]
  congr 1
  funext ⟨x, s⟩
  cases x <;> rfl
theorem packO_goes {x : AV} (h : goes x = true) : packO σ x = some (x, []) := by
  cases x
  case r => simp [goes, closed] at h
  case t => simp [goes] at h
  all_goals exact pack_goes h
theorem packOL_goes : ∀ {xs : List AV}, xs.all goes = true → deepC (packO σ) xs = some (xs, [])
  | [], _ => rfl
  | x :: xs, h => by
    simp only [List.all_cons, Bool.and_eq_true] at h
    simp only [deepC, packO_goes h.1, Option.bind_some, packOL_goes h.2, Option.map_some, List.append_nil]
theorem packO_ob {T : Nat} {cs xs : List AV} (hσ : σ 0 = some (.ob T cs)) (hc : closedL cs = true) (hx : xs.all goes = true) : deepC (packO σ) (.r 0 0 :: xs) = some (lent T cs :: xs, [0]) := by
  simp only [deepC, packO, hσ, pack1, leafL_closed hc, Option.map_some, Option.bind_some, packOL_goes hx, List.append_nil]
/-- One result. -/
theorem out_one {rs : List ResultVar} {xs : List AV} {s : St} {x : AV} {T : Nat} {cs : List AV} (h1 : evRes I s rs = some [x]) (h2 : goes x = true) (hσ : s.σ 0 = some (.ob T cs)) (hc : closedL cs = true) (hx : xs.all goes = true) :
    outK I rs (.r 0 0 :: xs) (.ret, s) = some (.t [x, .t (lent T cs :: xs)]) := by
  have h3 : giveL s.σ [x] = some ([x], [], []) := giveL_closed (by simp only [closedL, goes_closed h2, Bool.and_self])
  simp only [outK, h1, Option.bind_some, h3, packO_ob hσ hc hx]
  rw [if_pos ⟨by simp, by simp⟩]
  cases x
  case t => simp [goes] at h2
  all_goals rfl
/-- No result. -/
theorem out_none {rs : List ResultVar} {xs : List AV} {s : St} {x : Ex} {T : Nat} {cs : List AV} (hx0 : ∀ i, x ≠ .exit i) (h1 : evRes I s rs = some []) (hσ : s.σ 0 = some (.ob T cs)) (hc : closedL cs = true) (hx : xs.all goes = true) :
    outK I rs (.r 0 0 :: xs) (x, s) = some (.t [.t [], .t (lent T cs :: xs)]) := by
  cases x
  case exit i => exact absurd rfl (hx0 i)
  all_goals
    simp only [outK, h1, Option.bind_some, giveL, packO_ob hσ hc hx]
    rw [if_pos ⟨by simp, by simp⟩]
/-- Two results and more, all of values. -/
theorem out_two {rs : List ResultVar} {xs : List AV} {s : St} {x y : AV} {zs : List AV} {T : Nat} {cs : List AV} (h1 : evRes I s rs = some (x :: y :: zs)) (h2 : closedL (x :: y :: zs) = true) (hσ : s.σ 0 = some (.ob T cs)) (hc : closedL cs = true) (hx : xs.all goes = true) :
    outK I rs (.r 0 0 :: xs) (.ret, s) = some (.t [.t (x :: y :: zs), .t (lent T cs :: xs)]) := by
  simp only [outK, h1, Option.bind_some, giveL_closed h2, packO_ob hσ hc hx]
  rw [if_pos ⟨by simp, by simp⟩]
end
end Go.Proofs.Ytibjofpgbcbloaa.Ev
/-
The engine, part 32: rules for rows that grow, and for lists of texts and numbers.
-/
namespace Go.Proofs.Ytibjofpgbcbloaa.Ev
section
open Go Go.RowKit
set_option linter.unusedVariables false
set_option linter.unusedSimpArgs false
variable {I : Tab} {C : Sem1} {pf : FuncId → Nat} {m : Nat} {e : Nat → AV} {σ : Sto} {key : Nat}

def appT (I : Tab) (σ : Sto) (key : Nat) (x y : AV) : Option TI → Option (AV × Sto)
  | some ⟨.sl E, _, _, _⟩ => (I E).bind fun ei => appK σ key E ei x (sliceCells σ ei.sz y)
  | _ => none
theorem evOp_app (t : TypeId) (x y : Operand) : evOp I C pf e σ key (.call { callee := .builtin .append, args := #[x, y], argTypes := #[t, t] }) = appT I σ key (val e x) (val e y) (I t) := by
  cases hi : I t with
  | none =>
    simp only [evOp, builtinOf, List.map_cons, List.map_nil]
    rw [show (#[t, t] : Array TypeId).getD 0 0 = t from rfl, if_pos rfl, hi]
    rfl
  | some i =>
    obtain ⟨k, a, b, c⟩ := i
    cases k
    case sl E =>
      cases hE : I E with
      | none =>
        simp only [evOp, builtinOf, List.map_cons, List.map_nil, appT, hE]
        rw [show (#[t, t] : Array TypeId).getD 0 0 = t from rfl, if_pos rfl, hi]
        simp only [hE]
        rfl
      | some ei =>
        rw [evOp_append hi hE]
        simp only [appT, hE, Option.bind_some]
    all_goals
      simp only [evOp, builtinOf, List.map_cons, List.map_nil]
      rw [show (#[t, t] : Array TypeId).getD 0 0 = t from rfl, if_pos rfl, hi]
      rfl
def appE (σ : Sto) (key E : Nat) (x y : AV) : Option TI → Option (AV × Sto)
  | some ei => appK σ key E ei x (sliceCells σ ei.sz y)
  | none => none
theorem appT_sl (x y : AV) (E a b : Nat) (c : List Value) : appT I σ key x y (some ⟨.sl E, a, b, c⟩) = appE σ key E x y (I E) := by
  simp only [appT]
  cases I E <;> rfl
theorem appE_some (E : Nat) (x y : AV) (ei : TI) : appE σ key E x y (some ei) = appK σ key E ei x (sliceCells σ ei.sz y) := rfl
/-- The cells of a slice of a row. -/
def scW (sz lo n : Nat) : Option Slot → Option (Nat × List AV)
  | some s => if lo + n * sz ≤ s.cells.length then some (n, (s.cells.drop lo).take (n * sz)) else none
  | none => none
theorem sc_wK (sz id lo n : Nat) : sliceCells σ sz (.w id lo n) = scW sz lo n (σ id) := by
  simp only [sliceCells, scW]
  cases σ id <;> rfl
theorem scW_row {E sz n n2 : Nat} {cs : List AV} (h : cs.length = n * sz) : scW sz 0 n (some (.row E sz n2 cs)) = some (n, cs) := by
  show (if 0 + n * sz ≤ cs.length then some (n, (cs.drop 0).take (n * sz)) else none) = _
  rw [if_pos (by omega), List.drop_zero, List.take_of_length_le (by omega)]
/-- A slice that is full takes some more. -/
theorem app_s {E sz by_ : Nat} {k : TK} {z : List Value} {n m : Nat} {cs news : List AV} (h1 : 0 < sz) (h2 : news.length = m * sz) (h3 : news.all leafOk = true) (h4 : cs.length = n * sz) (h5 : n + m ≤ 9223372036854775807) (h6 : (n + m) * by_ ≤ 140737488355328) (h7 : m ≠ 0 ∨ n = 0) :
    appK σ key E ⟨k, sz, by_, z⟩ (.s true n cs) (some (m, news)) = some (.w key 0 (n + m), upd σ key (some (.row E sz (n + m) (cs ++ news)))) :=
  appK_s h1 h2 h3 h4 h5 h6 h7
/-- A row takes some more. -/
theorem app_w {E sz by_ : Nat} {k : TK} {z : List Value} {id n m : Nat} {cs news : List AV} (hσ : σ id = some (.row E sz n cs)) (h1 : 0 < sz) (h2 : news.length = m * sz) (h3 : news.all leafOk = true) (h4 : cs.length = n * sz) (h5 : n + m ≤ 9223372036854775807) (h6 : (n + m) * by_ ≤ 140737488355328) (h7 : key ≠ id) :
    appK σ key E ⟨k, sz, by_, z⟩ (.w id 0 n) (some (m, news)) = some (.w key 0 (n + m), upd (upd σ id none) key (some (.row E sz (n + m) (cs ++ news)))) := by
  rw [appK_w hσ h1 h2 h3 (by show n * sz ≤ _; omega) h5 h6 h7]
  rw [List.take_of_length_le (by show cs.length ≤ n * sz; omega)]
/-- A row of which only n elements are left takes some more. -/
theorem app_part {E sz by_ : Nat} {k : TK} {z : List Value} {id n n' m : Nat} {cs news : List AV} (hσ : σ id = some (.row E sz n' cs)) (h1 : 0 < sz) (h2 : news.length = m * sz) (h3 : news.all leafOk = true) (h4 : n * sz ≤ cs.length) (h5 : n + m ≤ 9223372036854775807) (h6 : (n + m) * by_ ≤ 140737488355328) (h7 : key ≠ id) :
    appK σ key E ⟨k, sz, by_, z⟩ (.w id 0 n) (some (m, news)) = some (.w key 0 (n + m), upd (upd σ id none) key (some (.row E sz (n + m) (cs.take (n * sz) ++ news)))) :=
  appK_w hσ h1 h2 h3 h4 h5 h6 h7
theorem adopt_row (E sz n : Nat) (cs : List AV) : adopt σ key (.o E sz n cs) = if closedL cs = true then some (.w key 0 n, upd σ key (some (.row E sz n cs))) else none := rfl
theorem adopt_agg (cs : List AV) : adopt σ key (.a cs) = if closedL cs = true then some (.a cs, σ) else none := rfl
theorem adopt_ptr (cs : List AV) : adopt σ key (.p cs) = if closedL cs = true then some (.p cs, σ) else none := rfl
theorem adopt_sl (ex : Bool) (n : Nat) (cs : List AV) : adopt σ key (.s ex n cs) = if closedL cs = true then some (.s ex n cs, σ) else none := rfl
/-- A row handed over. -/
def gvW (σ : Sto) (id n : Nat) : Option Slot → Option AV
  | some (.row E sz N cs) => if n = N ∧ closedL cs = true then some (.o E sz n cs) else giveAll σ [.w id 0 n]
  | _ => giveAll σ [.w id 0 n]
theorem gv_w (id n : Nat) : giveAll σ [.w id 0 n] = gvW σ id n (σ id) := by
  cases h : σ id with
  | none => rfl
  | some s =>
    cases s with
    | row E sz N cs =>
      simp only [gvW]
      split
      · rename_i hc
        obtain ⟨rfl, hc⟩ := hc
        exact giveAll_w h hc
      · rfl
    | _ => rfl
theorem give_row {id n E sz : Nat} {cs : List AV} (h : σ id = some (.row E sz n cs)) (hc : closedL cs = true) : giveAll σ [.w id 0 n] = some (.o E sz n cs) := giveAll_w h hc
theorem give_row2 {id n E sz : Nat} {cs : List AV} {y : AV} (h : σ id = some (.row E sz n cs)) (hc : closedL cs = true) (hy : closed y = true) : giveAll σ [.w id 0 n, y] = some (.t [.o E sz n cs, y]) := giveAll_wc h hc hy

/-! ### a law whose code gives true -/
theorem calls_true {P : Program} {f : FuncId} {args : List AV} (h : PureOk P f args (B true)) (w : World) (V : Nat → Prop) (us : List Value) (hV : ∀ b, V b → b < w.heap.size) (hl : us.length = args.length)
    (hr : ∀ (j : Nat) (y : AV) (u : Value), args[j]? = some y → us[j]? = some u → Rep w (gV V) y u) :
    Calls P f us.toArray w fun e w' => e = .returned (.bool true) ∧ Below w.heap.size w w' := by
  refine (h.2 w V us hV hl hr).mono ?_
  rintro e w' ⟨V', u, B, rfl, hb, _, _, hres, _, _⟩
  refine ⟨?_, hb⟩
  obtain ⟨_, _, hr⟩ := hres
  rw [rep_v_inv hr]
theorem calls_true_v {P : Program} {f : FuncId} {us : List Value} (h : PureOk P f (us.map .v) (B true)) (w : World) :
    Calls P f us.toArray w fun e w' => e = .returned (.bool true) ∧ Below w.heap.size w w' :=
  calls_true h w (fun _ => False) us (fun _ h => h.elim) (by simp) fun j y u hj hu => by
    simp only [List.getElem?_map, hu, Option.map_some, Option.some.injEq] at hj
    rw [← hj]
    exact .v u

/-! ### lists of texts, of numbers -/
def strs (l : List (List UInt8)) : List AV := l.map fun s => S s
theorem strs_nil : strs [] = [] := rfl
theorem strs_cons (x : List UInt8) (l : List (List UInt8)) : strs (x :: l) = S x :: strs l := rfl
theorem strs_append (a b : List (List UInt8)) : strs a ++ strs b = strs (a ++ b) := by simp [strs]
theorem strs_one (x : List UInt8) : [S x] = strs [x] := rfl
theorem strs_len (l : List (List UInt8)) : (strs l).length = l.length := by simp [strs]
theorem strs_closed (l : List (List UInt8)) : closedL (strs l) = true := by
  induction l with
  | nil => rfl
  | cons x l ih => simp only [strs_cons, closedL, closed, ih, Bool.and_self]
theorem strs_leaf (l : List (List UInt8)) : (strs l).all leafOk = true := by
  induction l with
  | nil => rfl
  | cons x l ih => simp only [strs_cons, List.all_cons, leafOk_str, ih, Bool.and_self]
theorem strs_get (l : List (List UInt8)) (i : Nat) : (strs l)[i]? = (l[i]?).map fun s => S s := by simp [strs]
theorem strs_drop (l : List (List UInt8)) (i : Nat) : (strs l).drop i = strs (l.drop i) := by simp [strs]
theorem strs_take (l : List (List UInt8)) (i : Nat) : (strs l).take i = strs (l.take i) := by simp [strs]
theorem strs_head (l : List (List UInt8)) : (strs l).head? = (l.head?).map fun s => S s := by cases l <;> rfl
def ints (l : List Int) : List AV := l.map fun n => N n
theorem ints_nil : ints [] = [] := rfl
theorem ints_cons (x : Int) (l : List Int) : ints (x :: l) = N x :: ints l := rfl
theorem ints_append (a b : List Int) : ints a ++ ints b = ints (a ++ b) := by simp [ints]
theorem ints_one (x : Int) : [N x] = ints [x] := rfl
theorem ints_len (l : List Int) : (ints l).length = l.length := by simp [ints]
theorem ints_closed (l : List Int) : closedL (ints l) = true := by
  induction l with
  | nil => rfl
  | cons x l ih => simp only [ints_cons, closedL, closed, ih, Bool.and_self]
theorem ints_leaf (l : List Int) : (ints l).all leafOk = true := by
  induction l with
  | nil => rfl
  | cons x l ih => simp only [ints_cons, List.all_cons, leafOk_int, ih, Bool.and_self]
theorem ints_get (l : List Int) (i : Nat) : (ints l)[i]? = (l[i]?).map fun n => N n := by simp [ints]
theorem ints_drop (l : List Int) (i : Nat) : (ints l).drop i = ints (l.drop i) := by simp [ints]
theorem ints_take (l : List Int) (i : Nat) : (ints l).take i = ints (l.take i) := by simp [ints]
theorem ints_head (l : List Int) : (ints l).head? = (l.head?).map fun n => N n := by cases l <;> rfl
theorem adopt_two {x y : AV} (h1 : closed x = true) (h2 : closed y = true) : adopt σ key (.t [x, y]) = some (.t [x, y], σ) := adopt_t2 x y (adopt1_closed h1) (adopt1_closed h2)
theorem adopt_none : adopt σ key (.t []) = some (.t [], σ) := rfl
theorem give_two {x y : AV} (h1 : closed x = true) (h2 : closed y = true) : giveAll σ [x, y] = some (.t [x, y]) := giveAll_two (by simp only [closedL, h1, h2, Bool.and_self])
theorem give_p {cs : List AV} (h : closedL cs = true) : giveAll σ [.p cs] = some (.p cs) := giveAll_p h
theorem give_a {cs : List AV} (h : closedL cs = true) : giveAll σ [.a cs] = some (.a cs) := giveAll_a h
theorem give_s {ex : Bool} {n : Nat} {cs : List AV} (h : closedL cs = true) : giveAll σ [.s ex n cs] = some (.s ex n cs) := giveAll_s h
theorem RR : (type_of% @adopt_two) ∧ (type_of% @adopt_none) ∧ (type_of% @give_two) ∧ (type_of% @give_p) ∧ (type_of% @give_a) ∧ (type_of% @give_s) ∧ (type_of% @evOp_app) ∧ (type_of% @appT_sl) ∧ (type_of% @appE_some) ∧ (type_of% @sc_wK) ∧ (type_of% @sc_s) ∧ (type_of% @adopt_row) ∧ (type_of% @adopt_agg) ∧ (type_of% @adopt_ptr) ∧ (type_of% @adopt_sl) ∧ (type_of% @strs_len) ∧ (type_of% @strs_closed) ∧ (type_of% @strs_leaf) ∧ (type_of% @ints_len) ∧ (type_of% @ints_closed) ∧ (type_of% @ints_leaf) :=
  ⟨@adopt_two, @adopt_none, @give_two, @give_p, @give_a, @give_s, @evOp_app, @appT_sl, @appE_some, @sc_wK, @sc_s, @adopt_row, @adopt_agg, @adopt_ptr, @adopt_sl, @strs_len, @strs_closed, @strs_leaf, @ints_len, @ints_closed, @ints_leaf⟩
end
end Go.Proofs.Ytibjofpgbcbloaa.Ev